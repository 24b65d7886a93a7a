/- Contracts and plain laws for the statement of this claim; no condition. Here: log.Log.Back. Going back, and one more: plain part. The messages of WholeReplay. The end of WholeReplay: both logs hold the same entries: plain. The other log: one message after the other. The other log's loop: plain. WholeReplay: the setup; a bad world. The log and the queue beside what is kept: another set to keep; Push. Back, on the log and the queue together. -/
import Derived.Test.YtalmjdlcogdpmaaGreatDoorR11
import Derived.Test.YtalmjdlcogdpmaaGreatDoorR6
import Derived.Laws.OwnMore
import Derived.Test.YtalmjdlcogdpmaaGreatDoorR2
set_option linter.unusedVariables false
set_option linter.unusedSimpArgs false

namespace Go.Proofs.YtalmjdlcogdpmaaGreatDoor
open Go.RowKit
attribute [local go_sem] upUpon_value upUpon_enter upUpon_skip upUpon_row ucUpon_value ucUpon_skip ucUpon_enter ucUpon_row tUpon_value tUpon_skip tUpon_enter Oper.semAt_some wideR_round

/-- Where the entries begin that are not ahead of a message. -/
def backAt (es : List Ent) (m : Msg) (k : Nat) : Prop :=
  k ≤ es.length ∧ (∀ j e, k ≤ j → es[j]? = some e → befB e.m m = false) ∧ (k = 0 ∨ ∃ e, es[k - 1]? = some e ∧ befB e.m m = true)

theorem wpTail_store {P : Program} {ops : Array Oper} {rest : List Oper} {o : Oper} {a : Act} {Q : Act → World → Prop} {w : World} (hgd : o.guard = none) (ty : TypeId) (x y : Operand) (ho : o.op = .store ty x y) (b off : Nat) (cells : List Value) (hx : a.eval x = .pointer (some ⟨b, off, none⟩)) (hy : a.eval y = .agg cells.toArray)
    (ht : w.there b off cells.length) (hi : (P.info? ty).map (·.size) = some cells.length) (h1 : ∀ u ∈ cells, u.oneCell' = true)
    (h : wpTail P ops Q rest (a.put o.dst undef) (w.setCells b off cells)) : wpTail P ops Q (o :: rest) a w := by
  refine wpTail_step hgd fun K hK => ?_
  rw [run_exec_store ty x y ho b off cells hx hy ht hi h1, tUpon_skip]
  exact hK _ _ h
/-- Only the log's own block has turned, and how it stands is known. -/
theorem LogR.of_blk {w W : World} {a : Nat} {V : LogV} {E : Env} {i0 s : Sta} {es : List Ent} {every : Nat} {stuck b : Bool} (h : LogIs w a V E i0 es every stuck) (hc : Chg (· = a) w W) (hb : Blk W a (logList V E s every b)) : LogR W a V E i0 es where
  w := ⟨fun i hi => by
    have := hb.get i (by simp at hi ⊢; omega)
    refine this.trans ?_
    rcases i with _ | _ | _ | _ | i <;> first | rfl | (simp only [List.length_cons, List.length_nil] at hi; omega)⟩
  l := hb.at (i := 16) rfl
  row := h.r.row.chg hc fun k hk e => by subst e; exact h.ap hk
  ins := h.r.ins.chg hc fun k hk e => by subst e; exact h.fa (.inl hk)
  lnk := h.r.lnk.chg hc fun k hk e => by subst e; exact h.fa (.inr (.inl hk))
  insb := fun k hk => Nat.lt_of_lt_of_le (h.r.insb k hk) hc.size
  lnkb := fun k hk => Nat.lt_of_lt_of_le (h.r.lnkb k hk) hc.size
  g := hc.cell (fun e => h.fa (.inr (.inr (.inl e.symm)))) h.r.g
  ahead := fun k e q hk hbb => (h.r.ahead k e q hk hbb).chg hc fun e' => h.fa (.inr (.inr (.inr ⟨e, List.mem_of_getElem? hk, .inr (by rw [← e']; exact hbb)⟩)))
  sent := fun e he => (h.r.sent e he).chg hc fun k hk e' => by subst e'; exact h.fa (.inr (.inr (.inr ⟨e, he, .inl hk⟩)))

/-- What the out row holds behind i rounds. -/
def BackOut (E : Env) (i0 : Sta) (es : List Ent) (k i : Nat) (xs : List Value) : Prop :=
  ∀ j e, k ≤ j → j < i → es[j]? = some e → ∃ p c, ∀ r, r < 19 → xs[(es.length - 1 - j) * 19 + r]? = (entList e.m (stOf E i0 ((es.take j).map Ent.m)) e.f (.slice p e.sent.length c))[r]?
def stkAt (es : List Ent) (stuck : Bool) (k i : Nat) : Bool := stuck && ((es.take i).drop k).all fun e => e.f == 0

theorem stkAt_succ {es : List Ent} {stuck : Bool} {k i : Nat} {e : Ent} (hk : k ≤ i) (he : es[i]? = some e) : stkAt es stuck k (i + 1) = (stkAt es stuck k i && (e.f == 0)) := by
  unfold stkAt
  obtain ⟨hl, rfl⟩ := List.getElem?_eq_some_iff.1 he
  rw [List.take_succ_eq_append_getElem hl, List.drop_append_of_le_length (by simp; omega), List.all_append, Bool.and_assoc]
  simp
theorem BackOut.set {E : Env} {i0 : Sta} {es : List Ent} {k i : Nat} {xs : List Value} {e : Ent} (h : BackOut E i0 es k i xs) (hk : k ≤ i) (he : es[i]? = some e) (hx : xs.length = (es.length - k) * 19) (p : Option Addr) (c : Nat) :
    BackOut E i0 es k (i + 1) (setL xs ((es.length - 1 - i) * 19) (entList e.m (stOf E i0 ((es.take i).map Ent.m)) e.f (.slice p e.sent.length c))) := by
  intro j x h1 h2 hj
  have hl := (List.getElem?_eq_some_iff.1 he).1
  have hlen : (entList e.m (stOf E i0 ((es.take i).map Ent.m)) e.f (.slice p e.sent.length c)).length = 19 := rfl
  rcases Nat.lt_or_ge j i with h3 | h3
  · obtain ⟨p', c', h4⟩ := h j x h1 h3 hj
    refine ⟨p', c', fun r hr => ?_⟩
    rw [setL_out _ _ _ _ (by right; rw [hlen]; have : (es.length - 1 - i + 1) * 19 ≤ (es.length - 1 - j) * 19 := Nat.mul_le_mul_right _ (by omega); omega)]
    exact h4 r hr
  · have : j = i := by omega
    subst this
    rw [he] at hj
    cases hj
    refine ⟨p, c, fun r hr => ?_⟩
    rw [setL_in _ _ _ _ (by omega) (by rw [hlen, hx]; have : (es.length - 1 - j + 1) * 19 ≤ (es.length - k) * 19 := Nat.mul_le_mul_right _ (by omega); omega)]

theorem OwnR.take {w : World} {e : TypeId} {size g n cap k : Nat} {xs : List Value} (h : OwnR w e size (.slice (some ⟨g, 0, none⟩) n cap) n xs) (hk : k ≤ n) (c : Nat) (hc1 : k ≤ c) (hc2 : c ≤ cap) : OwnR w e size (.slice (some ⟨g, 0, none⟩) k c) k (xs.take (k * size)) := by
  have hks : k * size ≤ n * size := Nat.mul_le_mul_right _ hk
  refine ⟨by rw [List.length_take, h.1]; omega, ?_⟩
  rcases h.2 with ⟨h1, _⟩ | ⟨g', cap', cur, h1, h2, h3, h4, h5, h6⟩
  · cases h1
  · injection h1 with e1 e2 e3
    injection e1 with e1
    injection e1 with e1 _ _
    subst e1 e3
    refine .inr ⟨g, c, cur, rfl, h2, hc1, by omega, by have : c * size ≤ cap * size := Nat.mul_le_mul_right _ hc2; omega, ?_⟩
    rw [← h6, List.take_take]
    congr 1
    omega
theorem entCells_take (es : List Ent) (k : Nat) : entCells (es.take k) = (entCells es).take (k * 10) := by
  induction es generalizing k with
  | nil => simp [entCells]
  | cons e es ih =>
    cases k with
    | zero => simp [entCells]
    | succ k =>
      simp only [List.take_succ_cons, entCells, List.flatMap_cons] at ih ⊢
      rw [ih k, List.take_append, show e.list.length = 10 from rfl, List.take_of_length_le (l := e.list) (by show (10 : Nat) ≤ _; omega), show (k + 1) * 10 - 10 = k * 10 by omega]
/-- What Back leaves. -/
structure BackOk (w w' : World) (a : Nat) (V : LogV) (E : Env) (i0 : Sta) (es : List Ent) (every : Nat) (stuck : Bool) (m : Msg) (ov : Value) (k : Nat) (V' : LogV) (xs : List Value) : Prop where
  at' : backAt es m k
  lt : k < es.length
  log : LogIs w' a V' E i0 (es.take k) every (stkAt es stuck k es.length)
  chg : Chg (· = a) w w'
  same : ∀ q, sameBlock V'.lv q → sameBlock V.lv q
  vs : V'.pv = V.pv ∧ V'.pl = V.pl ∧ V'.cv = V.cv ∧ V'.cl = V.cl
  own : OwnR w' 51 19 ov (es.length - k) xs
  out : BackOut E i0 es k es.length xs
  new : ∀ q, sameBlock ov q → w.heap.size ≤ q

set_option maxRecDepth 100000 in
set_option maxHeartbeats 2000000 in
theorem logback_any {a : Nat} {V : LogV} {E : Env} {i0 : Sta} {es : List Ent} {every : Nat} {stuck : Bool} {w : World} (h : LogIs w a V E i0 es every stuck) (he : EntsOk E i0 es) (hok : okE E) (hgs : ∀ k, k ≤ es.length → GoodSta (stOf E i0 ((es.take k).map Ent.m))) (hs8 : ∀ e ∈ es, e.sent.length ≤ 8)
    (m : Msg) (hlast : ∀ e, es.getLast? = some e → befB e.m m = false) (hne : es ≠ []) :
    Calls Tryz.prog 9 #[.pointer (some ⟨a, 0, none⟩), m.val] w fun e w' => ∃ ov k V' xs, e = .returned ov ∧ BackOk w w' a V E i0 es every stuck m ov k V' xs := by
  have H := Lib.hid (And.intro h (And.intro he (And.intro hok (And.intro hgs (And.intro hs8 (And.intro hlast hne))))))
  have hn0 : 0 < es.length := List.length_pos_iff.2 hne
  have hn40 := he.n
  clear h he hok hgs hs8 hlast hne
  refine (callsIn_wide (n := 0)).1 ?_
  refine callsIn_of_wp_marks (n := 0) Tryz.func9 rfl trivial ?_
  refine wpIn_wide.2 ?_
  simp only [Msg.val, Tryz.ntmps9, List.size_toArray, List.length_cons, List.length_nil, Nat.reduceAdd, Nat.reduceSub, Array.replicate_succ, Array.replicate_zero, List.push_toArray, List.append_toArray, List.nil_append, List.cons_append]
  go_upto_region 1 with (fail)
  refine wp_alloc2 fun W1 hU1 hs1 bL bM => ?_
  have rL := bL.get
  have HN := Lib.hid (lognone_any a W1 ((H.out.1.up hU1).b.at (i := 4) rfl))
  go_wp2_with fail
  refine HN.out.mono ?_
  rintro e w2 ⟨rfl, rfl⟩
  clear HN
  have hL2 := H.out.1.up hU1
  obtain ⟨pl, cl, hlv⟩ := hL2.r.lvs
  have hl16 := hL2.r.l
  rw [hlv] at hl16
  have HV := Lib.hid hlv
  clear hlv hL2
  go_upto_block 0 with fail
  refine wp_alloc1 fun W3 hU3 hs3 bF => ?_
  obtain ⟨Bf, hBf⟩ : ∃ B, w.heap.size + 2 = B := ⟨_, rfl⟩
  rw [hs1, hBf] at bF hs3
  rw [hBf]
  have hBfw : w.heap.size + 1 < Bf := by omega
  have hU13 := hU1.trans hU3
  have bL3 := bL.up hU3
  have bM3 := bM.up hU3
  have HB := Lib.hid (And.intro hU13 (And.intro bL3 (And.intro bM3 bF)))
  clear rL hl16 bL bM bF hU13 bL3 bM3 hs1 hBf
  go_cut [] from 16 to 33 (fun wr => ∃ k : Nat, backAt es m k ∧ Hid (Chg (· = Bf) W3 wr) ∧ Hid (Blk wr Bf [.int .i64 k]))
  case first =>
    go_wp2_with fail
    go_loopw [] (fun wr => ∃ k : Nat, k ≤ es.length ∧ Hid (∀ j e, k ≤ j → es[j]? = some e → befB e.m m = false) ∧ Hid (Chg (· = Bf) W3 wr) ∧ Hid (Blk wr Bf [.int .i64 k])) (fun wr => (intOf ((wr.cell? ⟨Bf, 0, none⟩).getD undef)).toNat)
    case atStart => exact ⟨es.length, Nat.le_refl _, Lib.hid (fun j e hj he => by have := (List.getElem?_eq_some_iff.1 he).1; omega), Lib.hid (Chg.refl _ _), Lib.hid HB.out.2.2.2⟩
    case round =>
      obtain ⟨k, hk, hall, hch, hbk⟩ := hrel
      have hUr : Up w wr := ((Chg.of_up HB.out.1).trans hch.out (fun _ _ e => e)).to_up (fun q hq e => by omega)
      have kL := (HB.out.2.1.chg hch.out (fun e => by omega)).lift
      have kM := (HB.out.2.2.1.chg hch.out (fun e => by omega)).lift
      have kF := hbk.out.lift
      go_upto_region 4 with (fail)
      rcases Nat.eq_zero_or_pos k with hk0 | hk0
      · subst hk0
        refine region_upL0 [0, 1, 2, 3, 4, 5, 6, 7, 8, 9, 10, 11, 12, 13, 14] [] 15 [] (by kernel_rfl) (by kernel_rfl) ?_
        simp only [getOps, List.getElem?_cons_zero, List.getElem?_cons_succ]
        repeat (first | (apply wpUp_step rfl rfl; (focus (intro W hU; go_simp; exact ⟨rfl, Up.refl _⟩))) | (apply wpUp_no rfl); go_simp)
        refine wpUp_nil fun W5 hW5 => ?_
        refine wpNew_nil fun W6 hW6 => ?_
        have hc6 := Lib.hid (hch.out.up ((up_drew.trans hW5).trans hW6))
        have hb6 := Lib.hid (hbk.out.up ((up_drew.trans hW5).trans hW6))
        clear kL kM kF
        go_wp2
        go_meet
        case rel => exact ⟨0, ⟨Nat.zero_le _, hall.out, Or.inl rfl⟩, hc6, hb6⟩
      · obtain ⟨j, hj⟩ : ∃ j, j = k - 1 := ⟨_, rfl⟩
        have hjl : j < es.length := by omega
        obtain ⟨x, hx⟩ : ∃ x, es[j]? = some x := ⟨es[j], by simp [hjl]⟩
        have hLr := H.out.1.up hUr
        obtain ⟨g, cap, hlv, hbe⟩ := hLr.r.ent hx
        have hl16 := hLr.r.l
        rw [hlv] at hl16
        have kA := lift hl16
        have kE := hbe.lift
        have kE0 := lift hbe.zero
        have hd : decide ((0 : Int) < (k : Int)) = true := decide_eq_true (by omega)
        have hi1 : decide ((j : Int) < (es.length : Int)) = true := decide_eq_true (by omega)
        have w_k : IntKind.i64.wrap ((k : Int) - 1) = (j : Int) := by rw [IntWalk.i64_in _ (by omega)]; omega
        have HX := Lib.hid (And.intro hx hj)
        clear hx hLr hlv hbe hl16 hj
        refine region_upL0 [0, 1, 2, 3, 4, 5, 6, 7, 8, 9, 10, 11, 12, 13, 14] [] 15 [] (by kernel_rfl) (by kernel_rfl) ?_
        simp only [getOps, List.getElem?_cons_zero, List.getElem?_cons_succ]
        repeat (first | (apply wpUp_step rfl rfl; (focus (intro W hU; go_simp; exact ⟨rfl, Up.refl _⟩))) | (apply wpUp_yes rfl rfl; (focus (intro W hU; go_simp; first | exact ⟨rfl, Up.refl _⟩ | exact before_any x.m m W))); go_simp)
        refine wpUp_nil fun W5 hW5 => ?_
        refine wpNew_nil fun W6 hW6 => ?_
        have hc6 := hch.out.up ((up_drew.trans hW5).trans hW6)
        have hb6 := hbk.out.up ((up_drew.trans hW5).trans hW6)
        clear kL kM kF kA kE kE0 hd hi1
        rcases hbf : befB x.m m with _ | _
        · have HBF := Lib.hid hbf
          have rF := hb6.get
          have hF6 : W6.frozen? ⟨Bf, 0, none⟩ = false := (hc6.marks _).trans (new_free w (.map #[] 0) HB.out.1 0 _ (by omega))
          have hch7 : Chg (· = Bf) W3 (W6.setCell ⟨Bf, 0, none⟩ (.int .i64 (j : Int))) := hc6.setCell (p := ⟨Bf, 0, none⟩) (.inl rfl) _
          have hbk7 : Blk (W6.setCell ⟨Bf, 0, none⟩ (.int .i64 (j : Int))) Bf [.int .i64 (j : Int)] := hb6.set 0 _ (by simp)
          have hm7 : (intOf ((((W6.setCell ⟨Bf, 0, none⟩ (.int .i64 (j : Int)))).cell? ⟨Bf, 0, none⟩).getD undef)).toNat = j := by rw [hbk7.at (i := 0) rfl]; simp [intOf]
          have hmr : (intOf ((wr.cell? ⟨Bf, 0, none⟩).getD undef)).toNat = k := by rw [hbk.out.at (i := 0) rfl]; simp [intOf]
          have H7 := Lib.hid (And.intro hch7 (And.intro hbk7 (And.intro hm7 hmr)))
          clear hch7 hbk7 hm7 hmr hb6 hbf
          go_wp2
          exact ⟨⟨j, by omega, Lib.hid (fun q e hq he => by
            by_cases hqj : q = j
            · subst hqj
              rw [HX.out.1] at he
              cases he
              exact HBF.out
            · exact hall.out q e (by have := HX.out.2; omega) he), Lib.hid H7.out.1, Lib.hid H7.out.2.1⟩, by rw [H7.out.2.2.1, H7.out.2.2.2]; have := HX.out.2; omega⟩
        · have HBF := Lib.hid hbf
          clear hbf
          go_wp2
          go_meet
          case rel => exact ⟨k, ⟨hk, hall.out, Or.inr ⟨x, by rw [← HX.out.2]; exact HX.out.1, HBF.out⟩⟩, Lib.hid hc6, Lib.hid hb6⟩
  case rest =>
    obtain ⟨k, hk, hch, hbk⟩ := hcut
    have hkl : k < es.length := by
      rcases Nat.lt_or_ge k es.length with h1 | h1
      · exact h1
      · exfalso
        have hke : k = es.length := by have := hk.1; omega
        rcases hk.2.2 with h2 | ⟨e, h2, h3⟩
        · omega
        · rw [hke] at h2
          have := H.out.2.2.2.2.2.1 e (by rw [List.getLast?_eq_getElem?]; exact h2)
          rw [this] at h3
          cases h3
    have HK := Lib.hid hk
    have hUc : Up w wc := ((Chg.of_up HB.out.1).trans hch.out (fun _ _ e => e)).to_up (fun q hq e => by omega)
    have bLc := HB.out.2.1.chg hch.out (fun e => by omega)
    have hLc := H.out.1.up hUc
    obtain ⟨p', c', hlv⟩ := hLc.r.lvs
    have hl16 := hLc.r.l
    rw [hlv] at hl16
    clear hk
    go_upto_region 6 with (fail)
    have kL := bLc.lift
    have kF := hbk.out.lift
    have kA := lift hl16
    have hdk : (((k : Nat) : Int) == ((es.length : Nat) : Int)) = false := by rw [beq_eq_false_iff_ne]; omega
    refine region_upL0 [0, 1, 2, 3, 4, 5] [] 6 [] (by kernel_rfl) (by kernel_rfl) ?_
    simp only [getOps, List.getElem?_cons_zero, List.getElem?_cons_succ]
    repeat (apply wpUp_step rfl rfl; (focus (intro W hU; go_simp; exact ⟨rfl, Up.refl _⟩)); go_simp)
    refine wpUp_nil fun W5 hW5 => ?_
    refine wpNew_nil fun W6 hW6 => ?_
    have hU6 : Up wc W6 := (up_drew.trans hW5).trans hW6
    clear kL kF kA
    go_upto_region 8 with (fail)
    obtain ⟨n, hn⟩ : ∃ n, n = es.length - k := ⟨_, rfl⟩
    have w_n : IntKind.i64.wrap ((es.length : Int) - (k : Int)) = (n : Int) := by rw [IntWalk.i64_in _ (by omega)]; omega
    have kL := (bLc.up hU6).lift
    have kF := (hbk.out.up hU6).lift
    have kA := lift (cell_up hU6 hl16)
    obtain ⟨i0e, hi0, hz0, hz1, hz2⟩ := info_parts infoEntry
    obtain ⟨MC, hMC, hmk⟩ : ∃ MC : Array Value, MC.size = n * 19 ∧ ∀ W, (Instr.makeSlice 47 (.int .i64 (n : Int)) (.int .i64 (n : Int))).run Tryz.prog W = .ok (.slice (some ⟨W.heap.size, 0, none⟩) n n) (W.alloc (.cells MC 51)) := ⟨_, size_madeCells _ _, fun W => by
      have hr := run_make (P := Tryz.prog) W 47 51 i0e _ Tryz.underlying47 hi0 hz0 .i64 .i64 n n (by omega) (Int.le_refl _) (by rw [hz2]; omega) (by omega)
      simp only [Int.toNat_natCast, hz1] at hr
      exact hr⟩
    have HMC := Lib.hid hMC
    have HN := Lib.hid hn
    have ownNew : ∀ W : World, OwnR (W.alloc (.cells MC 51)) 51 19 (.slice (some ⟨W.heap.size, 0, none⟩) n n) n MC.toList := fun W =>
      ⟨by simp [HMC.out], .inr ⟨W.heap.size, n, MC, rfl, heap_alloc_new W _, Nat.le_refl _, by unfold maxLen; omega, by rw [HMC.out]; exact Nat.le_refl _, by rw [← HMC.out]; exact List.take_of_length_le (by simp)⟩⟩
    have HOW := Lib.hid ownNew
    clear hMC hn ownNew
    go_cut [6] from 41 to 48 (fun v6 wx => ∃ O G : Nat, v6 = .pointer (some ⟨O, 0, none⟩) ∧ Hid (Up W6 wx) ∧ Hid (Blk wx O [.slice (some ⟨G, 0, none⟩) n n]) ∧ Hid (OwnR wx 51 19 (.slice (some ⟨G, 0, none⟩) n n) n MC.toList) ∧ W6.heap.size ≤ O ∧ W6.heap.size ≤ G ∧ O ≠ G)
    case first =>
      refine region_plan0 (.head [0, 1, 2, 3, 4, 5, 6] (.two 7 (.one 8 .done) 8 (.one 7 .done))) 9 [] (by kernel_rfl) (by kernel_rfl) ?_
      refine plan_head ?_
      simp only [getOps, List.getElem?_cons_zero, List.getElem?_cons_succ]
      repeat (apply wpUp_step rfl rfl; (focus (intro W hU; go_simp; exact ⟨rfl, Up.refl _⟩)); go_simp)
      refine wpUp_nil fun W7 hW7 => ?_
      clear kL kF kA
      have hU7 : Up W6 W7 := up_drew.trans hW7
      refine plan_two rfl rfl rfl rfl (fun W hW K hK => ?_) (fun W hW K hK => ?_)
      · go_simp
        refine ⟨alloc_up _ _ _, hK _ _ ?_⟩
        clear hK K
        refine plan_one rfl rfl fun W8 hW8 K hK => ?_
        go_simp
        refine ⟨alloc_up _ _ _, hK _ _ ?_⟩
        clear hK K
        refine plan_done fun W9 hW9 => ?_
        have own9 := (HOW.out W).up ((hW8.trans (alloc_up W8 #[.slice none 0 0] 47)).trans hW9)
        have bO9 := (Blk.alloc W8 [.slice none 0 0] 47).up hW9
        have h1 := (hU7.trans hW).1.size
        have h2 := hW8.1.size
        rw [World.size_alloc] at h2
        have hU9 : Up W6 W9 := ((((hU7.trans hW).trans (alloc_up _ _ _)).trans hW8).trans (alloc_up _ _ _)).trans hW9
        obtain ⟨G, hG⟩ : ∃ G, W.heap.size = G := ⟨_, rfl⟩
        obtain ⟨O, hO⟩ : ∃ O, W8.heap.size = O := ⟨_, rfl⟩
        rw [hG] at own9 h1 h2 ⊢
        rw [hO] at bO9 h2 ⊢
        have hOG : O ≠ G := by omega
        have hO6 : W6.heap.size ≤ O := by omega
        have hG6 : W6.heap.size ≤ G := by omega
        have rO := bO9.get
        have hFO : W9.frozen? ⟨O, 0, none⟩ = false := new_free W6 (.map #[] 0) hU9 0 _ hO6
        have c10 : Chg (· = O) W9 (W9.setCell ⟨O, 0, none⟩ (.slice (some ⟨G, 0, none⟩) n n)) := Chg.setCell (S := (· = O)) (p := ⟨O, 0, none⟩) (Chg.refl _ _) (Or.inl rfl) _
        have b10 := bO9.set 0 (.slice (some ⟨G, 0, none⟩) n n) (by simp)
        have own10 := own9.chg c10 (fun q hq e => by
          have : q = G := by simpa [sameBlock, Value.ownBlock] using hq.symm
          omega)
        have hU10 : Up W6 (W9.setCell ⟨O, 0, none⟩ (.slice (some ⟨G, 0, none⟩) n n)) := ((Chg.of_up hU9).trans c10 (fun _ _ e => e)).to_up fun q hq e => by omega
        have HZ := Lib.hid (And.intro hU10 (And.intro b10 own10))
        simp only [getOps, List.getElem?_cons_zero, List.getElem?_cons_succ]
        clear c10 b10 own10 hU10 own9 bO9
        go_wp2
        go_meet
        case rel => exact ⟨O, G, rfl, Lib.hid HZ.out.1, Lib.hid HZ.out.2.1, Lib.hid HZ.out.2.2, hO6, hG6, hOG⟩
      · go_simp
        refine ⟨alloc_up _ _ _, hK _ _ ?_⟩
        clear hK K
        refine plan_one rfl rfl fun W8 hW8 K hK => ?_
        go_simp
        refine ⟨alloc_up _ _ _, hK _ _ ?_⟩
        clear hK K
        refine plan_done fun W9 hW9 => ?_
        have own9 := (HOW.out W8).up hW9
        have bO9 := (Blk.alloc W [.slice none 0 0] 47).up ((hW8.trans (alloc_up W8 MC 51)).trans hW9)
        have h1 := (hU7.trans hW).1.size
        have h2 := hW8.1.size
        rw [World.size_alloc] at h2
        have hU9 : Up W6 W9 := ((((hU7.trans hW).trans (alloc_up _ _ _)).trans hW8).trans (alloc_up _ _ _)).trans hW9
        obtain ⟨G, hG⟩ : ∃ G, W8.heap.size = G := ⟨_, rfl⟩
        obtain ⟨O, hO⟩ : ∃ O, W.heap.size = O := ⟨_, rfl⟩
        rw [hG] at own9 h2 ⊢
        rw [hO] at bO9 h1 h2 ⊢
        have hOG : O ≠ G := by omega
        have hO6 : W6.heap.size ≤ O := by omega
        have hG6 : W6.heap.size ≤ G := by omega
        have rO := bO9.get
        have hFO : W9.frozen? ⟨O, 0, none⟩ = false := new_free W6 (.map #[] 0) hU9 0 _ hO6
        have c10 : Chg (· = O) W9 (W9.setCell ⟨O, 0, none⟩ (.slice (some ⟨G, 0, none⟩) n n)) := Chg.setCell (S := (· = O)) (p := ⟨O, 0, none⟩) (Chg.refl _ _) (Or.inl rfl) _
        have b10 := bO9.set 0 (.slice (some ⟨G, 0, none⟩) n n) (by simp)
        have own10 := own9.chg c10 (fun q hq e => by
          have : q = G := by simpa [sameBlock, Value.ownBlock] using hq.symm
          omega)
        have hU10 : Up W6 (W9.setCell ⟨O, 0, none⟩ (.slice (some ⟨G, 0, none⟩) n n)) := ((Chg.of_up hU9).trans c10 (fun _ _ e => e)).to_up fun q hq e => by omega
        have HZ := Lib.hid (And.intro hU10 (And.intro b10 own10))
        simp only [getOps, List.getElem?_cons_zero, List.getElem?_cons_succ]
        clear c10 b10 own10 hU10 own9 bO9
        go_wp2
        go_meet
        case rel => exact ⟨O, G, rfl, Lib.hid HZ.out.1, Lib.hid HZ.out.2.1, Lib.hid HZ.out.2.2, hO6, hG6, hOG⟩
    case rest =>
      obtain ⟨O, G, rfl, hUx, bO, hown, hO6, hG6, hOG⟩ := hcut
      have rL := ((bLc.up hU6).up hUx.out).get
      have rF := ((hbk.out.up hU6).up hUx.out).get
      go_wp2_with fail
      have hUw : Up w wc := (hUc.trans hU6).trans hUx.out
      have bLw := (bLc.up hU6).up hUx.out
      have bFw := (hbk.out.up hU6).up hUx.out
      have hBf6 : Bf < W6.heap.size := (hbk.out.up hU6).lt (by simp)
      have hOw : O < wc.heap.size := bO.out.lt (by simp)
      have hGw : G < wc.heap.size := hown.out.block_lt G rfl
      refine (states_any a k wc).mono ?_
      rintro e W9 ⟨rfl, hU9, hs9, bq, bqf⟩
      clear rL rF
      go_wp2_with fail
      refine wp_range rfl (enters_of Tryz.func41 (by kernel_rfl) rfl) ?_
      intro fn W10 hU10 hs10 hD10 hl10
      obtain ⟨Q, hQ⟩ : ∃ Q, wc.heap.size = Q := ⟨_, rfl⟩
      have hD : W9.heap.size = Q + 2 := by omega
      have hN : W10.heap.size = Q + 4 := by omega
      rw [hQ] at bq bqf hOw hGw
      simp only [hD, hQ] at hl10 hD10 ⊢
      obtain ⟨rc, hl10, hrc⟩ : ∃ rc : Rc, W10.heap[Q + 2 + 1]? = some (rc.at .ready none) ∧ rc = _ := ⟨_, hl10, rfl⟩
      rw [← hrc]
      have hUx10 := hU9.trans hU10
      have hUw10 := hUw.trans hUx10
      have hfl : ∀ k, foot a V E es k → k < w.heap.size := H.out.1.r.foot_lt
      have haw : a < w.heap.size := hfl a (.inl rfl)
      obtain ⟨sF, hsF⟩ : ∃ sF, stOf E i0 (es.map Ent.m) = sF := ⟨_, rfl⟩
      refine (states1_any a V E i0 es H.out.2.2.1 H.out.2.1.m H.out.2.2.2.1 H.out.2.1.a (by omega) (Q + 2 + 1) (Q + 1) Q k (by omega)
        (fun S i W => Chg (· = a) w W ∧ Q + 4 ≤ S ∧ (Blk W Q [.pointer (some ⟨a, 0, none⟩)] ∧ Blk W w.heap.size [.pointer (some ⟨a, 0, none⟩)] ∧ Blk W Bf [.int .i64 k] ∧ Blk W O [.slice (some ⟨G, 0, none⟩) n n]) ∧ W.heap[Q + 2 + 1]? = some (rc.at .ready none) ∧ W.heap[Q + 2]? = some (.deferred (some [])) ∧
          Blk W a (logList V E sF every (stkAt es stuck k i)) ∧ ∃ xs, OwnR W 51 19 (.slice (some ⟨G, 0, none⟩) n n) n xs ∧ BackOut E i0 es k i xs)
        (fun S i W hJ => LogR.of_blk H.out.1 hJ.1 hJ.2.2.2.2.2.1) (fun S i W hJ => hJ.2.2.1.1) ?hJu ?hJS ?hY W10 (H.out.1.up hUw10).r (Or.inl hkl) (bqf.up hU10) ?hff (bq.up hU10) ?hfoot (by omega) ?hst).mono ?_
      case hJu =>
        rintro S i W W' ⟨h1, h2, ⟨h3, h3a, h3b, h3c⟩, h4, h5, h6, xs, h7, h8⟩ hu
        exact ⟨h1.up hu, h2, ⟨h3.up hu, h3a.up hu, h3b.up hu, h3c.up hu⟩, (Chg.of_up (S := fun _ => False) hu).obj h4 id, (Chg.of_up (S := fun _ => False) hu).obj h5 id, h6.up hu, xs, h7.up hu, h8⟩
      case hJS =>
        rintro S i W W' ⟨h1, h2, ⟨h3, h3a, h3b, h3c⟩, h4, h5, h6, xs, h7, h8⟩ hc
        refine ⟨⟨hc.os.trans h1.os, hc.tape.trans h1.tape, hc.output.trans h1.output, Nat.le_trans h1.size hc.size, fun q hq hn => (hc.block q (Nat.lt_of_lt_of_le hq h1.size) (fun e => by omega)).trans (h1.block q hq hn), fun x => (hc.marks x).trans (h1.marks x)⟩, h2, ⟨h3.chg hc (fun e => by omega), h3a.chg hc (fun e => by omega), h3b.chg hc (fun e => by omega), h3c.chg hc (fun e => by omega)⟩, hc.obj h4 (fun e => by omega), hc.obj h5 (fun e => by omega), h6.chg hc (fun e => by omega), xs, h7.chg hc (fun q hq e => ?_), h8⟩
        have : q = G := by simpa [sameBlock, Value.ownBlock] using hq.symm
        omega
      case hff => exact new_free w (.map #[] 0) hUw10 0 _ (by omega)
      case hfoot => exact fun hk => by have := hfl _ hk; omega
      case hst =>
        intro k' W' hc hb hk'
        have hU' : Up w W' := ((Chg.of_up hUw10).trans hc (fun _ _ e => e)).to_up fun q hq e => by omega
        have hst : stkAt es stuck k k' = stuck := by
          unfold stkAt
          rw [List.drop_eq_nil_of_le (by simp; omega)]
          simp
        have hbA := (H.out.1.up hU').b
        rw [hsF] at hbA
        refine ⟨Chg.of_up hU', by have := hc.size; omega, ⟨(bq.up hU10).chg hc (fun e => by omega), (bLw.up hUx10).chg hc (fun e => by omega), (bFw.up hUx10).chg hc (fun e => by omega), (bO.out.up hUx10).chg hc (fun e => by omega)⟩, hc.obj hl10 (fun e => by omega), hc.obj hD10 (fun e => by omega), by rw [hst]; exact hbA, MC.toList, (hown.out.up hUx10).chg hc (fun q hq e => ?_), fun j e h1 h2 => by omega⟩
        have : q = G := by simpa [sameBlock, Value.ownBlock] using hq.symm
        omega
      case hY =>
        rintro S i W ⟨h1, h2, ⟨h3, h3a, h3b, h3c⟩, h4, h5, h6, xs, h7, h8⟩ hSW hi
        obtain ⟨e, he⟩ : ∃ e, es[i]? = some e := ⟨es[i], by simp [hi]⟩
        obtain ⟨s, hs⟩ : ∃ s, stOf E i0 ((es.take i).map Ent.m) = s := ⟨_, rfl⟩
        rw [hs]
        have e1 := congrArg Rc.assign hrc
        have e2 := congrArg Rc.body hrc
        have e3 := congrArg Rc.params hrc
        have e4 := congrArg Rc.tmps hrc
        dsimp only at e1 e2 e3 e4
        suffices hX : ∀ R : Ending → World → Prop, (∀ W', (Chg (· = a) w W' ∧ Q + 4 ≤ S ∧ (Blk W' Q [.pointer (some ⟨a, 0, none⟩)] ∧ Blk W' w.heap.size [.pointer (some ⟨a, 0, none⟩)] ∧ Blk W' Bf [.int .i64 k] ∧ Blk W' O [.slice (some ⟨G, 0, none⟩) n n]) ∧ W'.heap[Q + 2 + 1]? = some (rc.at .ready none) ∧ W'.heap[Q + 2]? = some (.deferred (some [])) ∧
            Blk W' a (logList V E sF every (stkAt es stuck k (i + 1))) ∧ ∃ xs, OwnR W' 51 19 (.slice (some ⟨G, 0, none⟩) n n) n xs ∧ BackOut E i0 es k (i + 1) xs) ∧
            W'.heap[S]? = W.heap[S]? ∧ (∀ j, W'.frozen? ⟨S, j, none⟩ = W.frozen? ⟨S, j, none⟩) → R (.returned (.bool true)) W') →
            YieldAt Fence.wide 0 Tryz.prog (Q + 2 + 1) #[.int .i64 i, s.val] W R from hX _ (fun W' h => ⟨rfl, h⟩)
        intro R hR
        refine yieldAt_of h4 (by rw [e3]; rfl) ?_
        rw [e1, e2, e3, e4]
        have HY := Lib.hid (And.intro h1 (And.intro h2 (And.intro (And.intro h3 (And.intro h3a (And.intro h3b h3c))) (And.intro h4 (And.intro h5 (And.intro h6 (And.intro h7 h8)))))))
        have HE := Lib.hid (And.intro he hs)
        have HR := Lib.hid hR
        have HSF := Lib.hid hsF
        have hQw : Bf < Q ∧ O < Q ∧ G < Q ∧ w.heap.size + 1 < Bf := ⟨by omega, by omega, by omega, by omega⟩
        clear e1 e2 e3 e4 h1 h2 h3 h3a h3b h3c h4 h5 h6 h7 h8 he hs hrc hR hsF hQ hD hN hs9 hs10 hl10 hD10 bq bqf bLw bFw hUx10 hUw10 hUw
        simp only [Sta.val, Sta.cells]
        gi_wp2
        obtain ⟨y1, y2, ⟨y3, y3a, y3b, y3c⟩, y4, y5, y6, y7, y8⟩ := HY.out
        have hDlt : Q + 2 + 1 < W.heap.size := (Array.getElem?_eq_some_iff.1 y4).1
        obtain ⟨W1a, hW1a⟩ : ∃ W1a, W.alloc (.cells #[.int .i64 (s.r 0), .int .i64 (s.r 1), .int .i64 (s.r 2), .int .i64 (s.r 3), .int .i64 (s.r 4), .int .i64 (s.r 5), .int .i64 (s.r 6), .int .i64 (s.r 7), .int .i64 s.d, .int .i64 s.n] 34) = W1a := ⟨_, rfl⟩
        have hUa : Up W W1a := by rw [← hW1a]; exact alloc_up _ _ _
        have bX : Blk W1a W.heap.size s.list := by rw [← hW1a]; exact Blk.alloc W s.list 34
        have hsa : W1a.heap.size = W.heap.size + 1 := by rw [← hW1a]; simp
        rw [hW1a]
        have hl1a := (Chg.of_up (S := fun _ => False) hUa).obj y4 id
        refine ⟨hl1a, ?_⟩
        have hcb : Chg (· = Q + 2 + 1) W1a (W1a.putObj (Q + 2 + 1) (rc.at .busy none)) := putObj_chg _ hl1a rfl rfl
        have hlb : (W1a.putObj (Q + 2 + 1) (rc.at .busy none)).heap[Q + 2 + 1]? = some (rc.at .busy none) := World.putObj_heap_same (by omega)
        obtain ⟨X, hX⟩ : ∃ X, W.heap.size = X := ⟨_, rfl⟩
        rw [hX] at bX hDlt ⊢
        have bXb := bX.chg hcb (fun e => by omega)
        generalize (W1a.putObj (Q + 2 + 1) (rc.at .busy none)) = W2 at *
        have hc02 : Chg (· = Q + 2 + 1) W W2 := (Chg.of_up hUa).trans hcb (fun _ _ e => e)
        have bF2 := y3b.chg hc02 (fun e => by omega)
        have H2 := Lib.hid (And.intro hlb (And.intro hc02 (And.intro bXb (And.intro hX hDlt))))
        clear hlb hc02 bXb hX hDlt y1 y2 y3 y3a y3b y3c y4 y5 y6 y7 y8 bX hcb hl1a hUa hsa hW1a
        have rF := bF2.get
        apply wpIn_block
        rcases Nat.lt_or_ge i k with hik | hik
        · have hd : decide ((k : Int) ≤ (i : Int)) = false := decide_eq_false (by omega)
          gi_wp2
          obtain ⟨b1, b2, b3, b4, b5⟩ := H2.out
          obtain ⟨y1, y2, ⟨y3, y3a, y3b, y3c⟩, y4, y5, y6, y7, y8⟩ := HY.out
          refine ⟨b1, HR.out _ ?_⟩
          have c3 : Chg (· = Q + 2 + 1) W2 (W2.putObj (Q + 2 + 1) (rc.at .ready none)) := putObj_chg _ b1 rfl rfl
          have hlr : (W2.putObj (Q + 2 + 1) (rc.at .ready none)).heap[Q + 2 + 1]? = some (rc.at .ready none) := World.putObj_heap_same (Array.getElem?_eq_some_iff.1 b1).1
          have c4 := b2.trans c3 (fun _ _ e => e)
          have haw : a < w.heap.size := H.out.1.r.foot_lt a (.inl rfl)
          have hst : stkAt es stuck k (i + 1) = stkAt es stuck k i := by
            unfold stkAt
            rw [List.drop_eq_nil_of_le (by simp; omega), List.drop_eq_nil_of_le (by simp; omega)]
          refine ⟨⟨y1.trans c4 (fun q hq e => by omega), y2, ⟨y3.chg c4 (fun e => by omega), y3a.chg c4 (fun e => by omega), y3b.chg c4 (fun e => by omega), y3c.chg c4 (fun e => by omega)⟩, hlr, c4.obj y5 (fun e => by omega), by rw [hst]; exact y6.chg c4 (fun e => by omega), xs, y7.chg c4 (fun q hq e => ?_), fun j e' h1 h2 => by omega⟩, c4.block S hSW (fun e => by omega), fun j => c4.marks _⟩
          have : q = G := by simpa [sameBlock, Value.ownBlock] using hq.symm
          omega
        · have hd : decide ((k : Int) ≤ (i : Int)) = true := decide_eq_true (by omega)
          gi_wp2_with fail
          obtain ⟨b1, b2, b3, b4, b5⟩ := H2.out
          obtain ⟨y1, y2, ⟨y3, y3a, y3b, y3c⟩, y4, y5, y6, y7, y8⟩ := HY.out
          have haw : a < w.heap.size := H.out.1.r.foot_lt a (.inl rfl)
          have hca : Chg (· = a) w W2 := y1.trans b2 (fun q hq e => by omega)
          have bA2 := y6.chg b2 (fun e => by omega)
          have hR2 := LogR.of_blk H.out.1 hca bA2
          obtain ⟨g, cap, hlv2, hbe⟩ := hR2.ent HE.out.1
          have hl16 := hR2.l
          rw [hlv2] at hl16
          obtain ⟨ps, cs, hsv⟩ := (hR2.sent e (List.mem_of_getElem? HE.out.1)).form
          have kO := (y3c.chg b2 (fun e => by omega)).lift
          have kL := (y3a.chg b2 (fun e => by omega)).lift
          have kA := lift hl16
          have kE := hbe.lift
          have kE0 := lift hbe.zero
          have kX := b3.lift
          obtain ⟨j, hj⟩ : ∃ j, j = es.length - 1 - i := ⟨_, rfl⟩
          have hjn : j < n := by have := HN.out; omega
          have hi1 : decide ((i : Int) < (es.length : Int)) = true := decide_eq_true (by omega)
          have hj1 : decide ((j : Int) < (n : Int)) = true := decide_eq_true (by omega)
          have w_1 : IntKind.i64.wrap ((es.length : Int) - 1) = ((es.length : Int) - 1) := IntWalk.i64_in _ (by omega)
          have w_2 : IntKind.i64.wrap ((es.length : Int) - 1 - i) = (j : Int) := by rw [IntWalk.i64_in _ (by omega)]; omega
          obtain ⟨ahv, hahv⟩ : ∃ v, e.ah.map (fun b => (⟨b, 0, none⟩ : Addr)) = v := ⟨_, rfl⟩
          simp only [Ent.list, hsv, hahv] at kE
          have H3 := Lib.hid (And.intro hca (And.intro bA2 (And.intro hsv hj)))
          clear hca bA2 hR2 hlv2 hbe hl16 hsv hahv hj b1 b2 b3 b4 b5 y1 y2 y3 y3a y3b y3c y4 y5 y6 y7 y8 rF bF2
          refine region_inL [] [0, 1, 2, 3, 4, 5, 6, 7, 8, 9, 10, 11, 12, 13, 14, 15, 16] [17] 18 [19] (by kernel_rfl) (by kernel_rfl) ?_
          simp only [getOps, List.getElem?_cons_zero, List.getElem?_cons_succ]
          repeat (apply wpUp_step rfl rfl; (focus (intro W hU; go_simp; exact ⟨rfl, Up.refl _⟩)); go_simp)
          refine wpUp_nil fun W3 hW3 => ?_
          clear kO kL kA kE kE0 kX hi1 w_1 w_2
          have hU3 : Up W2 W3 := up_drew.trans hW3
          refine wpNew_step rfl fun W4 hW4 K hK => ?_
          go_simp
          have hU4 : Up W2 W4 := hU3.trans hW4
          have hsv4 := (LogR.of_blk H.out.1 (H3.out.1.up hU4) (H3.out.2.1.up hU4)).sent e (List.mem_of_getElem? HE.out.1)
          rw [H3.out.2.2.1] at hsv4
          refine (entry_any e.m e.f (.slice ps e.sent.length cs) e.sent (.pointer ahv) rfl s W4 hsv4 (H.out.2.2.2.2.1 e (List.mem_of_getElem? HE.out.1))).mono ?_
          rintro e' W5 ⟨hU5, v5, rfl, hov5, hnb5⟩
          refine ⟨_, rfl, hU5, hK _ _ ?_⟩
          clear hK K
          obtain ⟨p5, c5, rfl⟩ := hov5.form
          refine wpNew_nil fun W6 hW6 => ?_
          have hU6' : Up W2 W6 := (hU4.trans hU5).trans hW6
          obtain ⟨b1, b2, b3, b4, b5⟩ := H2.out
          obtain ⟨y1, y2, ⟨y3, y3a, y3b, y3c⟩, y4, y5, y6, y7, y8⟩ := HY.out
          have c26 : Chg (· = Q + 2 + 1) W W6 := b2.up hU6'
          have own6 := y7.chg c26 (fun q hq e => by
            have : q = G := by simpa [sameBlock, Value.ownBlock] using hq.symm
            omega)
          have hxl : xs.length = n * 19 := own6.1
          have hth : W6.there G (j * 19) 19 := fun r hr => ⟨by
              obtain ⟨u, hu⟩ : ∃ u, xs[j * 19 + r]? = some u := ⟨xs[j * 19 + r]'(by rw [hxl]; omega), by rw [List.getElem?_eq_getElem]⟩
              rw [own6.cell (g := G) rfl _ _ hu]; rfl, own6.frozen (g := G) rfl _⟩
          have hone : ∀ u ∈ entList e.m s e.f (.slice p5 e.sent.length c5), u.oneCell' = true := by simp [Value.oneCell']
          have own7 := OwnR.sets (g := G) (v := .slice (some ⟨G, 0, none⟩) n n) rfl (entList e.m s e.f (.slice p5 e.sent.length c5)) (j * 19) own6 (by rw [hxl]; simp; omega)
          have c7 : Chg (· = G) W6 (W6.setCells G (j * 19) (entList e.m s e.f (.slice p5 e.sent.length c5))) := Chg.setCells (S := (· = G)) (Or.inl rfl) _ _ (Chg.refl _ W6)
          have H7 := Lib.hid (And.intro c26 (And.intro own7 (And.intro c7 (And.intro hU6' hxl))))
          have HT := Lib.hid hth
          have HO1 := Lib.hid hone
          clear b1 b2 b3 b4 b5 y1 y2 y3 y3a y3b y3c y4 y5 y6 y7 y8 c26 own6 own7 c7 hth hone hxl hov5 hnb5 hsv4
          go_simp
          refine wpTail_step rfl fun K hK => ?_
          go_simp
          refine hK _ _ ?_
          clear hK K
          refine wpTail_store rfl 51 _ _ rfl G (j * 19) (entList e.m s e.f (.slice p5 e.sent.length c5)) rfl rfl HT.out infoEnt HO1.out ?_
          refine wpTail_nil ?_
          generalize (W6.setCells G (j * 19) (entList e.m s e.f (.slice p5 e.sent.length c5))) = W7 at *
          gi_wp2_with fail
          have haw : a < w.heap.size := H.out.1.r.foot_lt a (.inl rfl)
          have c27 : Chg (· = G) W2 W7 := (Chg.of_up H7.out.2.2.2.1).trans H7.out.2.2.1 (fun _ _ e => e)
          have hca7 : Chg (· = a) w W7 := H3.out.1.trans c27 (fun q hq e => by omega)
          have bA7 := H3.out.2.1.chg c27 (fun e => by omega)
          have hR7 := LogR.of_blk H.out.1 hca7 bA7
          obtain ⟨g7, cap7, hlv7, hbe7⟩ := hR7.ent HE.out.1
          obtain ⟨st, hst⟩ : ∃ st, stkAt es stuck k i = st := ⟨_, rfl⟩
          rw [hst] at bA7
          rw [logList, hlv7] at bA7
          have kA := bA7.lift
          have kE := hbe7.lift
          have kL := ((HY.out.2.2.1.2.1.chg H2.out.2.1 (fun e => by omega)).chg c27 (fun e => by omega)).lift
          have hi1 : decide ((i : Int) < (es.length : Int)) = true := decide_eq_true (by omega)
          have H9 := Lib.hid (And.intro c27 (And.intro hca7 (And.intro bA7 (And.intro hlv7 hst))))
          clear c27 hca7 bA7 hR7 hlv7 hbe7 hst
          refine region_inL [] [0, 1, 2, 3, 4, 5, 6, 7, 8, 9, 10, 11, 12, 13, 14, 15] [] 16 [17, 18] (by kernel_rfl) (by kernel_rfl) ?_
          simp only [getOps, List.getElem?_cons_zero, List.getElem?_cons_succ]
          have close : ∀ W9, Up W7.drew W9 → ∀ b : Bool, b = (st && (e.f == 0)) → (W9.setCell ⟨a, 17, none⟩ (.bool b)).heap[Q + 2 + 1]? = some (rc.at .busy none) ∧ R (.returned (.bool true)) ((W9.setCell ⟨a, 17, none⟩ (.bool b)).putObj (Q + 2 + 1) (rc.at .ready none)) := by
            intro W9 hW9 b hb
            obtain ⟨b1, b2, b3, b4, b5⟩ := H2.out
            obtain ⟨y1, y2, ⟨y3, y3a, y3b, y3c⟩, y4, y5, y6, y7, y8⟩ := HY.out
            obtain ⟨z1, z2, z3, z4, z5⟩ := H9.out
            obtain ⟨x1, x2, x3, x4, x5⟩ := H7.out
            have hU79 : Up W7 W9 := up_drew.trans hW9
            have cA : Chg (· = a) W9 (W9.setCell ⟨a, 17, none⟩ (.bool b)) := Chg.setCell (S := (· = a)) (p := ⟨a, 17, none⟩) (Chg.refl _ _) (Or.inl rfl) _
            have bA10 := (z3.up hU79).set 17 (.bool b) (by simp)
            simp only [List.set_cons_succ, List.set_cons_zero] at bA10
            generalize (W9.setCell ⟨a, 17, none⟩ (.bool b)) = W10 at *
            have cT : Chg (fun q => q = Q + 2 + 1 ∨ q = G ∨ q = a) W W10 := (((b2.mono (T := fun q => q = Q + 2 + 1 ∨ q = G ∨ q = a) (fun _ _ e => .inl e)).trans z1 (fun _ _ e => .inr (.inl e))).up hU79).trans cA (fun _ _ e => .inr (.inr e))
            have hl10 : W10.heap[Q + 2 + 1]? = some (rc.at .busy none) := cA.obj ((Chg.of_up (S := fun _ => False) hU79).obj (z1.obj b1 (fun e => by omega)) id) (fun e => by omega)
            refine ⟨hl10, HR.out _ ?_⟩
            have cP : Chg (· = Q + 2 + 1) W10 (W10.putObj (Q + 2 + 1) (rc.at .ready none)) := putObj_chg _ hl10 rfl rfl
            have hlr : (W10.putObj (Q + 2 + 1) (rc.at .ready none)).heap[Q + 2 + 1]? = some (rc.at .ready none) := World.putObj_heap_same (Array.getElem?_eq_some_iff.1 hl10).1
            have cF := cT.trans cP (fun _ _ e => .inl e)
            have cF2 : Chg (· = Q + 2 + 1) W10 (W10.putObj (Q + 2 + 1) (rc.at .ready none)) := cP
            have own10 := (x2.up hU79).chg cA (fun q hq e => by
              have : q = G := by simpa [sameBlock, Value.ownBlock] using hq.symm
              omega)
            have own11 := own10.chg cP (fun q hq e => by
              have : q = G := by simpa [sameBlock, Value.ownBlock] using hq.symm
              omega)
            have bA11 := bA10.chg cP (fun e => by omega)
            have hstk : stkAt es stuck k (i + 1) = b := by rw [stkAt_succ hik HE.out.1, z5, hb]
            have hbo := BackOut.set y8 hik HE.out.1 (by rw [x5, HN.out]) p5 c5
            rw [HE.out.2, ← H3.out.2.2.2] at hbo
            refine ⟨⟨y1.trans cF (fun q hq e => by rcases e with e | e | e <;> omega), y2, ⟨y3.chg cF (fun e => by rcases e with e | e | e <;> omega), y3a.chg cF (fun e => by rcases e with e | e | e <;> omega), y3b.chg cF (fun e => by rcases e with e | e | e <;> omega), y3c.chg cF (fun e => by rcases e with e | e | e <;> omega)⟩, hlr, cF.obj y5 (fun e => by rcases e with e | e | e <;> omega), ?_, _, own11, hbo⟩, cF.block S hSW (fun e => by rcases e with e | e | e <;> omega), fun j => cF.marks _⟩
            rw [hstk, logList, z4]
            exact bA11
          cases st
          · repeat (first | (apply wpUp_step rfl rfl; (focus (intro W hU; go_simp; exact ⟨rfl, Up.refl _⟩))) | (apply wpUp_no rfl); go_simp)
            refine wpUp_nil fun W8 hW8 => ?_
            refine wpNew_nil fun W9 hW9 => ?_
            refine wpTail_step rfl fun K hK => ?_
            go_simp
            refine hK _ _ ?_
            clear hK K
            refine wpTail_step rfl fun K hK => ?_
            go_simp
            refine hK _ _ ?_
            clear hK K
            have rA := (H9.out.2.2.1.up (up_drew.trans (hW8.trans hW9))).get
            have hF9 : W9.frozen? ⟨a, 17, none⟩ = false := ((H9.out.2.1.up (up_drew.trans (hW8.trans hW9))).marks _).trans (H.out.1.fz 17)
            refine wpTail_step rfl fun K hK => ?_
            go_simp
            refine hK _ _ ?_
            clear hK K
            refine wpTail_nil ?_
            exact close W9 (hW8.trans hW9) _ rfl
          · repeat (first | (apply wpUp_step rfl rfl; (focus (intro W hU; go_simp; exact ⟨rfl, Up.refl _⟩))) | (apply wpUp_yes rfl rfl; (focus (intro W hU; go_simp; exact ⟨rfl, Up.refl _⟩))); go_simp)
            refine wpUp_nil fun W8 hW8 => ?_
            refine wpNew_nil fun W9 hW9 => ?_
            refine wpTail_step rfl fun K hK => ?_
            go_simp
            refine hK _ _ ?_
            clear hK K
            refine wpTail_step rfl fun K hK => ?_
            go_simp
            refine hK _ _ ?_
            clear hK K
            have rA := (H9.out.2.2.1.up (up_drew.trans (hW8.trans hW9))).get
            have hF9 : W9.frozen? ⟨a, 17, none⟩ = false := ((H9.out.2.1.up (up_drew.trans (hW8.trans hW9))).marks _).trans (H.out.1.fz 17)
            refine wpTail_step rfl fun K hK => ?_
            go_simp
            refine hK _ _ ?_
            clear hK K
            refine wpTail_nil ?_
            exact close W9 (hW8.trans hW9) _ rfl
      · rintro e W3 ⟨rfl, S, h1, h2, ⟨h3, h3a, h3b, h3c⟩, h4, h5, h6, xs, h7, h8⟩
        refine ⟨⟨_, rfl⟩, .ready, none, by simp, h4, fun W4 hc4 => ?_⟩
        dsimp only
        obtain ⟨x, hx⟩ : ∃ x, es[k]? = some x := ⟨es[k], by simp [hkl]⟩
        obtain ⟨s, hs⟩ : ∃ s, stOf E i0 ((es.take k).map Ent.m) = s := ⟨_, rfl⟩
        obtain ⟨st, hst⟩ : ∃ st, stkAt es stuck k es.length = st := ⟨_, rfl⟩
        rw [hst] at h6
        have hca : Chg (· = a) w W4 := h1.trans hc4 (fun q hq e => by omega)
        have b3a := h3a.chg hc4 (fun e => by omega)
        have b3b := h3b.chg hc4 (fun e => by omega)
        have b3c := h3c.chg hc4 (fun e => by omega)
        have b5 := hc4.obj h5 (fun e => by omega)
        have b6 := h6.chg hc4 (fun e => by omega)
        have b7 := h7.chg hc4 (fun q hq e => by
          have : q = G := by simpa [sameBlock, Value.ownBlock] using hq.symm
          omega)
        obtain ⟨p, hp⟩ : ∃ p, p = n - 1 := ⟨_, rfl⟩
        have hn1 : 1 ≤ n := by have := HN.out; omega
        have hpn : p < n := by omega
        have w_p : IntKind.i64.wrap ((n : Int) - 1) = (p : Int) := by have := HN.out; rw [IntWalk.i64_in _ (by omega)]; omega
        obtain ⟨px, cx, hxs⟩ := h8 k x (Nat.le_refl _) hkl hx
        have bS : BlkAt W4 G (p * 19 + 7) s.list := ⟨fun r hr => by
          have hr : r < 10 := hr
          refine b7.cell (g := G) rfl (p * 19 + 7 + r) _ ?_
          have := hxs (7 + r) (by omega)
          rw [show es.length - 1 - k = p by have := HN.out; omega, hs] at this
          rw [Nat.add_assoc, this]
          rcases r with _ | _ | _ | _ | _ | _ | _ | _ | _ | _ | r
          all_goals first | rfl | (exfalso; omega)⟩
        obtain ⟨g, cap, hlv⟩ : ∃ g cap, V.lv = .slice (some ⟨g, 0, none⟩) es.length cap := H.out.1.r.row.pos (by omega)
        have hcap : es.length ≤ cap := by
          rcases H.out.1.r.row.is with ⟨h1, h2⟩ | ⟨g', c', h1, h2⟩
          · omega
          · rw [hlv] at h1; injection h1 with _ _ e3; omega
        rw [logList, hlv] at b6
        have H4 := Lib.hid (And.intro hca (And.intro b3a (And.intro b3b (And.intro b3c (And.intro b5 (And.intro b6 (And.intro b7 bS)))))))
        have HV := Lib.hid (And.intro hx (And.intro hs (And.intro hst (And.intro hlv (And.intro hp hcap)))))
        have H8 := Lib.hid h8
        have HDD : Hid (w.heap.size ≤ Q + 2) := Lib.hid (by omega)
        have HNN : Hid (a < w.heap.size ∧ w.heap.size ≤ G ∧ w.heap.size + 1 < Bf ∧ w.heap.size ≤ O ∧ G < Q ∧ O < Q ∧ Bf < Q) := Lib.hid ⟨haw, by omega, by omega, by omega, by omega, by omega, by omega⟩
        have kL := b3a.lift
        have kO := b3c.lift
        have kS := bS.lift
        have kS0 := liftC bS.zero
        clear h1 h2 h3 h3a h3b h3c h4 h5 h6 h7 h8 hc4 hca b3a b3b b3c b5 b6 b7 hxs bS hx hs hst hlv hrc hl10 hD10 bq bqf bLw bFw hUx10 hUw10 hUw hU9 hU10 hs9 hs10 hsF hD hN hQ hOw hGw hfl hp hcap
        go_upto_region 15 with (fail)
        refine region_upL0 [0, 1, 2, 3, 4, 5, 6, 7, 8, 9] [] 10 [] (by kernel_rfl) (by kernel_rfl) ?_
        simp only [getOps, List.getElem?_cons_zero, List.getElem?_cons_succ]
        repeat (apply wpUp_step rfl rfl; (focus (intro W hU; go_simp; exact ⟨rfl, Up.refl _⟩)); go_simp)
        refine wpUp_nil fun W5 hW5 => ?_
        refine wpNew_nil fun W6 hW6 => ?_
        clear kL kO kS kS0
        have hU46 : Up W4 W6 := (up_drew.trans hW5).trans hW6
        have bA6 := H4.out.2.2.2.2.2.1.up hU46
        have hF6 : ∀ j, W6.frozen? ⟨a, j, none⟩ = false := fun j => ((H4.out.1.up hU46).marks _).trans (H.out.1.fz j)
        have bA7 := Blk.sets s.list 5 bA6 (by simp)
        have cA7 : Chg (· = a) W6 (W6.setCells a 5 s.list) := Chg.setCells (S := (· = a)) (Or.inl rfl) s.list 5 (Chg.refl _ W6)
        refine wpList_store_mid rfl _ _ _ rfl a 5 s.list.toArray rfl rfl (bA6.thereAt hF6 (by simp)) (by kernel_rfl) (by simp [Value.oneCell']) ?_
        simp only [setL, List.set_cons_succ, List.set_cons_zero] at bA7
        have H7 := Lib.hid (And.intro bA7 (And.intro cA7 hU46))
        clear bA6 hF6 bA7 cA7
        show wpList _ _ _ _ _ (W6.setCells a 5 s.list)
        generalize (W6.setCells a 5 s.list) = W7 at *
        have hcT : Chg (· = a) W4 W7 := (Chg.of_up H7.out.2.2).trans H7.out.2.1 (fun _ _ e => e)
        have b3a := H4.out.2.1.chg hcT (fun e => by have := HNN.out; omega)
        have b3b := H4.out.2.2.1.chg hcT (fun e => by have := HNN.out; omega)
        have b3c := H4.out.2.2.2.1.chg hcT (fun e => by have := HNN.out; omega)
        have b5 := hcT.obj H4.out.2.2.2.2.1 (fun e => by have := HNN.out; have := HDD.out; omega)
        have b7 := H4.out.2.2.2.2.2.2.1.chg hcT (fun q hq e => by
          have : q = G := by simpa [sameBlock, Value.ownBlock] using hq.symm
          have := HNN.out
          omega)
        have H9 := Lib.hid (And.intro hcT (And.intro b3a (And.intro b3b (And.intro b3c (And.intro b5 b7)))))
        have kL := b3a.lift
        have kF := b3b.lift
        have kA := H7.out.1.lift
        clear hcT b3a b3b b3c b5 b7
        have hk1 : k ≤ cap := by have := HV.out.2.2.2.2.2; omega
        go_upto_region 16 with (fail)
        refine region_upL0 [0, 1, 2, 3, 4, 5, 6, 7, 8, 9] [] 10 [] (by kernel_rfl) (by kernel_rfl) ?_
        simp only [getOps, List.getElem?_cons_zero, List.getElem?_cons_succ]
        repeat (apply wpUp_step rfl rfl; (focus (intro W hU; go_simp; exact ⟨rfl, Up.refl _⟩)); go_simp)
        refine wpUp_nil fun W8 hW8 => ?_
        refine wpNew_nil fun W9 hW9 => ?_
        clear kL kF kA hk1
        have hU79 : Up W7 W9 := (up_drew.trans hW8).trans hW9
        have bA9 := H7.out.1.up hU79
        have hc9 : Chg (· = a) w W9 := (H4.out.1.trans H9.out.1 (fun _ _ e => e)).up hU79
        have hF9 : W9.frozen? ⟨a, 16, none⟩ = false := (hc9.marks _).trans (H.out.1.fz 16)
        have rA := bA9.get
        have bA10 := bA9.set 16 (.slice (some ⟨g, 0, none⟩) k k) (by simp)
        simp only [List.set_cons_succ, List.set_cons_zero] at bA10
        have cA10 : Chg (· = a) W9 (W9.setCell ⟨a, 16, none⟩ (.slice (some ⟨g, 0, none⟩) k k)) := Chg.setCell (S := (· = a)) (p := ⟨a, 16, none⟩) (Chg.refl _ _) (Or.inl rfl) _
        have hcT := (Chg.of_up (S := (· = a)) hU79).trans cA10 (fun _ _ e => e)
        have b3c := H9.out.2.2.2.1.chg hcT (fun e => by have := HNN.out; omega)
        have rO := b3c.get
        have HZ := Lib.hid (And.intro (hc9.trans cA10 (fun _ _ e => e)) (And.intro bA10 (And.intro hcT b3c)))
        clear bA9 hc9 bA10 cA10 hcT b3c
        go_wp2
        refine marks_ret (HZ.out.2.2.1.obj H9.out.2.2.2.2.1 (fun e => by have := HNN.out; have := HDD.out; omega)) fun W' hc => ⟨_, results_tmp rfl _ _ _, ?_⟩
        obtain ⟨hx, hs, hst, hlv, hp, hcap⟩ := HV.out
        have hC : Chg (· = a) w W' := HZ.out.1.trans hc (fun q hq e => by have := HDD.out; omega)
        have hbA := HZ.out.2.1.chg hc (fun e => by have := HNN.out; have := HDD.out; omega)
        have hown := (H9.out.2.2.2.2.2.chg HZ.out.2.2.1 (fun q hq e => by
          have : q = G := by simpa [sameBlock, Value.ownBlock] using hq.symm
          have := HNN.out
          omega)).chg hc (fun q hq e => by
          have : q = G := by simpa [sameBlock, Value.ownBlock] using hq.symm
          have := HNN.out
          omega)
        refine ⟨_, rfl, k, { V with lv := .slice (some ⟨g, 0, none⟩) k k }, xs, ?_⟩
        have hle : k ≤ es.length := by omega
        have hsb : ∀ q, sameBlock (.slice (some ⟨g, 0, none⟩) k k) q → sameBlock V.lv q := fun q hq => by rw [hlv]; exact hq
        have hfirm : ∀ q, firm { V with lv := .slice (some ⟨g, 0, none⟩) k k } E (es.take k) q → firm V E es q := fun q hq => by
          rcases hq with h1 | h1 | h1 | ⟨e, he, h1⟩
          · exact .inl h1
          · exact .inr (.inl h1)
          · exact .inr (.inr (.inl h1))
          · exact .inr (.inr (.inr ⟨e, List.mem_of_mem_take he, h1⟩))
        have hr := H.out.1.r
        have hrow := hr.row
        rw [hlv] at hrow
        refine ⟨HK.out, hkl, ⟨⟨?_, ?_, ?_, ?_, ?_, ?_, ?_, ?_, ?_, ?_⟩, ?_, fun j => (hC.marks _).trans (H.out.1.fz j), fun h => H.out.1.ap (hsb _ h), fun h => H.out.1.fa (hfirm _ h), fun q hq hf => H.out.1.fr q (hsb _ hq) (hfirm _ hf)⟩, hC, hsb, ⟨rfl, rfl, rfl, rfl⟩, ?_, H8.out, fun q hq => ?_⟩
        · exact ⟨fun r hr => by
            have hr : r < 4 := hr
            have := hbA.get r (by simp; omega)
            refine this.trans ?_
            rcases r with _ | _ | _ | _ | r
            all_goals first | rfl | (exfalso; omega)⟩
        · exact hbA.at (i := 16) rfl
        · have := (hrow.take hle k (Nat.le_refl _) (by omega)).chg hC (fun q hq e => by
            subst e
            exact H.out.1.ap (hsb _ hq))
          show OwnR W' _ 10 (.slice (some ⟨g, 0, none⟩) k k) (es.take k).length (entCells (es.take k))
          rw [List.length_take, Nat.min_eq_left hle, entCells_take]
          exact this
        · exact hr.ins.chg hC (fun q hq e => by subst e; exact H.out.1.fa (.inl hq))
        · exact hr.lnk.chg hC (fun q hq e => by subst e; exact H.out.1.fa (.inr (.inl hq)))
        · exact fun q hq => Nat.lt_of_lt_of_le (hr.insb q hq) hC.size
        · exact fun q hq => Nat.lt_of_lt_of_le (hr.lnkb q hq) hC.size
        · exact hC.cell (fun e => H.out.1.fa (.inr (.inr (.inl (by simpa using e.symm))))) hr.g
        · intro j e b he hb
          have hj : j < k := by have := (List.getElem?_eq_some_iff.1 he).1; simp at this; omega
          rw [List.getElem?_take_of_lt hj] at he
          rw [List.take_take, Nat.min_eq_left (by omega)]
          exact (hr.ahead j e b he hb).chg hC (fun e' => by
            subst e'
            exact H.out.1.fa (.inr (.inr (.inr ⟨e, List.mem_of_getElem? he, .inr hb⟩))))
        · intro e he
          have he' := List.mem_of_mem_take he
          exact (hr.sent e he').chg hC (fun q hq e' => by
            subst e'
            exact H.out.1.fa (.inr (.inr (.inr ⟨e, he', .inl hq⟩))))
        · rw [hs, hst]
          exact hbA
        · rw [← HN.out]
          exact hown
        · have : q = G := by simpa [sameBlock, Value.ownBlock] using hq.symm
          have := HNN.out
          omega
end Go.Proofs.YtalmjdlcogdpmaaGreatDoor

namespace Go.Proofs.YtalmjdlcogdpmaaGreatDoor
section
variable {A Q Q' : List Msg} {es : List Ent} {m m' : Msg} {k : Nat}
theorem stuck_take (h0 : ∀ j e, es[j]? = some e → j + 1 < es.length → e.f = 0) (hk : k < es.length) : stuckOf (es.take k) = false := by
  unfold stuckOf
  cases h : (es.take k).getLast? with
  | none => rfl
  | some x =>
    rw [List.getLast?_eq_getElem?, List.length_take, Nat.min_eq_left (by omega)] at h
    rcases Nat.eq_zero_or_pos k with hz | hz
    · subst hz; simp at h
    · rw [List.getElem?_take_of_lt (by omega)] at h
      simp [h0 _ _ h (by omega)]
theorem stuck_back (p : Plain A es Q) (hk : k < es.length) : stkAt es (stuckOf es) k es.length = stuckOf (es.take k) := by
  rw [stuck_take p.zero hk]
  unfold stkAt
  cases hs : stuckOf es with
  | false => rfl
  | true =>
    rw [Bool.true_and, List.all_eq_false]
    unfold stuckOf at hs
    cases hl : es.getLast? with
    | none => rw [hl] at hs; cases hs
    | some x =>
      rw [hl] at hs
      refine ⟨x, ?_, by simpa using hs⟩
      rw [List.take_length]
      rw [List.getLast?_eq_getElem?] at hl
      have : (es.drop k)[es.length - 1 - k]? = some x := by rw [List.getElem?_drop, show k + (es.length - 1 - k) = es.length - 1 by omega]; exact hl
      exact List.mem_of_getElem? this
theorem Plain.back (p : Plain A es Q) (hQ : Q'.Perm ((es.drop k).map Ent.m ++ Q)) (hk : k < es.length) : Plain A (es.take k) Q' := by
  have hsp : es.map Ent.m = (es.take k).map Ent.m ++ (es.drop k).map Ent.m := by rw [← List.map_append, List.take_append_drop]
  have hs := p.srt
  rw [hsp, List.pairwise_append] at hs
  refine ⟨?_, hs.1, fun e he x hx => ?_, fun j e hj hl => ?_⟩
  · refine (hQ.append_left _).trans ?_
    rw [← List.append_assoc, ← hsp]
    exact p.perm
  · rcases List.mem_append.1 (hQ.mem_iff.1 hx) with h | h
    · exact hs.2.2 _ (List.mem_map.2 ⟨e, he, rfl⟩) x h
    · exact p.ahead e (List.mem_of_mem_take he) x h
  · rw [List.length_take] at hl
    rw [List.getElem?_take_of_lt (by omega)] at hj
    exact p.zero j e hj (by omega)
theorem Plain.add (p : Plain A es Q) (hQ : Q'.Perm (m :: Q)) (hl : ∀ e ∈ es, befB e.m m = true) : Plain (A ++ [m]) es Q' :=
  ⟨(hQ.append_left _).trans (by
    refine List.perm_middle.trans ?_
    exact (p.perm.cons m).trans (List.perm_append_comm (l₁ := [m]))), p.srt, fun e he x hx => by
    rcases List.mem_cons.1 (hQ.mem_iff.1 hx) with rfl | h
    · exact hl e he
    · exact p.ahead e he x h, p.zero⟩
/-- All entries are before m, if the last is. -/
theorem Plain.lastBef (p : Plain A es Q) {x : Ent} (hx : es.getLast? = some x) (hb : befB x.m m = true) : ∀ e ∈ es, befB e.m m = true := by
  intro e he
  rw [List.getLast?_eq_getElem?] at hx
  obtain ⟨j, hj⟩ := List.getElem?_of_mem he
  have hjl := (List.getElem?_eq_some_iff.1 hj).1
  rcases Nat.lt_or_ge j (es.length - 1) with h | h
  · have h1 := List.pairwise_iff_getElem.1 p.srt j (es.length - 1) (by simpa using hjl) (by simp; omega) h
    simp only [List.getElem_map] at h1
    rw [(List.getElem?_eq_some_iff.1 hj).2, (List.getElem?_eq_some_iff.1 hx).2] at h1
    exact befB_trans h1 hb
  · rw [show j = es.length - 1 by omega, hx] at hj
    cases hj
    exact hb
theorem Plain.backBef (p : Plain A es Q) (h : backAt es m k) : ∀ e ∈ es.take k, befB e.m m = true := by
  obtain ⟨h1, _, h3⟩ := h
  intro e he
  rcases h3 with h3 | ⟨x, h4, h5⟩
  · subst h3; simp at he
  · rcases Nat.eq_zero_or_pos k with hz | hz
    · subst hz; simp at he
    · obtain ⟨j, hj⟩ := List.getElem?_of_mem he
      have hjl := (List.getElem?_eq_some_iff.1 hj).1
      rw [List.length_take] at hjl
      rw [List.getElem?_take_of_lt (by omega)] at hj
      rcases Nat.lt_or_ge j (k - 1) with h | h
      · have h6 := List.pairwise_iff_getElem.1 p.srt j (k - 1) (by simp; omega) (by simp; omega) h
        simp only [List.getElem_map] at h6
        rw [(List.getElem?_eq_some_iff.1 hj).2, (List.getElem?_eq_some_iff.1 h4).2] at h6
        exact befB_trans h6 h5
      · rw [show j = k - 1 by omega, h4] at hj
        cases hj
        exact h5
end
end Go.Proofs.YtalmjdlcogdpmaaGreatDoor

namespace Go.Proofs.YtalmjdlcogdpmaaGreatDoor
def msgAt (tm : Nat → Nat) (i : Nat) : Msg := ⟨((tm i % 30 : Nat) : Int), -1, i, 0, i, i, false⟩
def allTo (tm : Nat → Nat) (n : Nat) : List Msg := (List.range n).map (msgAt tm)
theorem allTo_succ (tm : Nat → Nat) (n : Nat) : allTo tm (n + 1) = allTo tm n ++ [msgAt tm n] := by simp [allTo, List.range_succ]
theorem allTo_length (tm : Nat → Nat) (n : Nat) : (allTo tm n).length = n := by simp [allTo]
theorem msgAt_ok (tm : Nat → Nat) {i : Nat} (hi : i < 40) : okM (msgAt tm i) := by
  have : tm i % 30 < 30 := Nat.mod_lt _ (by omega)
  refine ⟨?_, ?_⟩
  · have h1 : validB (msgAt tm i).t = true := validB_iff.2 ⟨by show (0 : Int) ≤ ((tm i % 30 : Nat) : Int); omega, by show ((tm i % 30 : Nat) : Int) ≤ _; omega⟩
    have h2 : laneB (msgAt tm i).to = true := rfl
    have h3 : decide (0 ≤ mnv (msgAt tm i).s (msgAt tm i).u) = true := by
      rw [decide_eq_true_iff]
      show 0 ≤ mnv (i : Int) (i : Int)
      unfold mnv
      split <;> omega
    unfold chkB
    rw [h1, h2, h3]
    simp [msgAt]
  · simp only [I64, msgAt]
    omega
theorem good_all (tm : Nat → Nat) {n : Nat} (hn : n ≤ 40) : Good (allTo tm n) := by
  refine ⟨fun m hm => ?_, ?_, by rw [allTo_length]; exact hn⟩
  · obtain ⟨i, hi, rfl⟩ := List.mem_map.1 hm
    have hi := List.mem_range.1 hi
    exact ⟨msgAt_ok tm (by omega), rfl, tm i % 30, rfl, by have := Nat.mod_lt (tm i) (show 0 < 30 by omega); omega⟩
  · unfold allTo
    rw [List.pairwise_map]
    refine List.Pairwise.imp (R := fun a b => a < b) (fun {a b} h e => ?_) List.pairwise_lt_range
    simp [msgAt] at e
    omega
end Go.Proofs.YtalmjdlcogdpmaaGreatDoor

namespace Go.Proofs.YtalmjdlcogdpmaaGreatDoor

theorem prefix_one : ∀ (X X' Q Q' : List Msg), (X ++ Q).Perm (X' ++ Q') → X.Pairwise (fun a b => befB a b = true) → X'.Pairwise (fun a b => befB a b = true) → (∀ a ∈ X, ∀ b ∈ Q, befB a b = true) → (∀ a ∈ X', ∀ b ∈ Q', befB a b = true) → X.length ≤ X'.length → X = X'.take X.length
  | [], X', Q, Q', _, _, _, _, _, _ => by simp
  | x :: X, [], Q, Q', _, _, _, _, _, h => by simp at h
  | x :: X, x' :: X', Q, Q', hp, h1, h2, h3, h4, hl => by
    obtain ⟨a1, a2⟩ := List.pairwise_cons.1 h1
    obtain ⟨b1, b2⟩ := List.pairwise_cons.1 h2
    have hx : x = x' := by
      have m1 : x ∈ x' :: X' ++ Q' := hp.mem_iff.1 (by simp)
      have m2 : x' ∈ x :: X ++ Q := hp.mem_iff.2 (by simp)
      have c1 : x = x' ∨ befB x' x = true := by
        rcases List.mem_append.1 m1 with h | h
        · rcases List.mem_cons.1 h with h | h
          · exact .inl h
          · exact .inr (b1 x h)
        · exact .inr (h4 x' (by simp) x h)
      have c2 : x' = x ∨ befB x x' = true := by
        rcases List.mem_append.1 m2 with h | h
        · rcases List.mem_cons.1 h with h | h
          · exact .inl h
          · exact .inr (a1 x' h)
        · exact .inr (h3 x (by simp) x' h)
      rcases c1 with h | h
      · exact h
      · rcases c2 with h' | h'
        · exact h'.symm
        · rw [befB_asymm h] at h'; cases h'
    subst hx
    have hp' : (X ++ Q).Perm (X' ++ Q') := (List.perm_cons x).1 hp
    have := prefix_one X X' Q Q' hp' a2 b2 (fun a ha b hb => h3 a (by simp [ha]) b hb) (fun a ha b hb => h4 a (by simp [ha]) b hb) (by simpa using hl)
    simp only [List.length_cons, List.take_succ_cons]
    rw [← this]
section
variable {A Q Q' : List Msg} {es es' : List Ent} {E : Env} {i0 : Sta}
theorem Plain.aheadM (p : Plain A es Q) : ∀ a ∈ es.map Ent.m, ∀ b ∈ Q, befB a b = true := fun a ha b hb => by
  obtain ⟨e, he, rfl⟩ := List.mem_map.1 ha
  exact p.ahead e he b hb
theorem end_le (p : Plain A es Q) (p' : Plain A es' Q') (k : EntsOk E i0 es) (k' : EntsOk E i0 es') (hs : stuckOf es = true ∨ Q = []) (hl : es.length ≤ es'.length) : es.map Ent.m = es'.map Ent.m := by
  have h := prefix_one _ _ Q Q' (p.perm.trans p'.perm.symm) p.srt p'.srt p.aheadM p'.aheadM (by simpa using hl)
  rw [List.length_map] at h
  rcases Nat.eq_or_lt_of_le hl with he | hlt
  · rw [h, he, List.take_of_length_le (by simp)]
  · exfalso
    have hA := p.perm.length_eq
    have hA' := p'.perm.length_eq
    simp at hA hA'
    rcases hs with hs | hs
    · unfold stuckOf at hs
      cases hg : es.getLast? with
      | none => rw [hg] at hs; cases hs
      | some x =>
        rw [hg] at hs
        rw [List.getLast?_eq_getElem?] at hg
        have hpos : 0 < es.length := by have := (List.getElem?_eq_some_iff.1 hg).1; omega
        obtain ⟨y, hy⟩ : ∃ y, es'[es.length - 1]? = some y := ⟨es'[es.length - 1]'(by omega), List.getElem?_eq_getElem _⟩
        have hm : x.m = y.m := by
          have e1 : (es.map Ent.m)[es.length - 1]? = some x.m := by rw [List.getElem?_map, hg]; rfl
          have e2 : (es'.map Ent.m)[es.length - 1]? = some y.m := by rw [List.getElem?_map, hy]; rfl
          rw [h, List.getElem?_take_of_lt (by omega), e2] at e1
          injection e1 with e1
          exact e1.symm
        have ht : (es.take (es.length - 1)).map Ent.m = (es'.take (es.length - 1)).map Ent.m := by
          rw [List.map_take, List.map_take, h, List.take_take, Nat.min_eq_left (by omega)]
        have f1 := k.f _ x hg
        have f2 := k'.f _ y hy
        rw [hm, ht, ← f2, p'.zero _ y hy (by omega)] at f1
        simp [f1] at hs
    · subst hs
      simp at hA
      omega
/-- Both hold the same. -/
theorem end_eq (p : Plain A es Q) (p' : Plain A es' Q') (k : EntsOk E i0 es) (k' : EntsOk E i0 es') (hs : stuckOf es = true ∨ Q = []) (hs' : stuckOf es' = true ∨ Q' = []) : es.map Ent.m = es'.map Ent.m := by
  rcases Nat.le_total es.length es'.length with h | h
  · exact end_le p p' k k' hs h
  · exact (end_le p' p k' k hs' h).symm
theorem end_f (k : EntsOk E i0 es) (k' : EntsOk E i0 es') (h : es.map Ent.m = es'.map Ent.m) {j : Nat} {x y : Ent} (hx : es[j]? = some x) (hy : es'[j]? = some y) :
    x.m = y.m ∧ x.f = y.f ∧ x.sent.length = y.sent.length ∧ stOf E i0 ((es.take j).map Ent.m) = stOf E i0 ((es'.take j).map Ent.m) := by
  have hm : x.m = y.m := by
    have e1 : (es.map Ent.m)[j]? = some x.m := by rw [List.getElem?_map, hx]; rfl
    have e2 : (es'.map Ent.m)[j]? = some y.m := by rw [List.getElem?_map, hy]; rfl
    rw [h, e2] at e1
    injection e1 with e1
    exact e1.symm
  have ht : (es.take j).map Ent.m = (es'.take j).map Ent.m := by rw [List.map_take, List.map_take, h]
  refine ⟨hm, ?_, ?_, by rw [ht]⟩
  · rw [k.f j x hx, k'.f j y hy, hm, ht]
  · rw [k.s j x hx, k'.s j y hy, hm, ht]
end
end Go.Proofs.YtalmjdlcogdpmaaGreatDoor

namespace Go.Proofs.YtalmjdlcogdpmaaGreatDoor
open Go.RowKit

/-- A log in memory: of what was there it turns only what lies in T. -/
structure MemL (T : Nat → Prop) (w0 W : World) (a : Nat) (E : Env) (every : Nat) (es : List Ent) : Prop where
  ex : ∃ V, LogIs W a V E zeroSta es every (stuckOf es) ∧ (∀ k, turns a V k → T k ∨ w0.heap.size ≤ k)
  ok : EntsOk E zeroSta es
  up : Chg T w0 W
section
variable {T : Nat → Prop} {w0 W W' : World} {a : Nat} {E : Env} {every : Nat} {es : List Ent} {A Q : List Msg} {m : Msg}
theorem MemL.upM (M : MemL T w0 W a E every es) (hu : Up W W') : MemL T w0 W' a E every es := by
  obtain ⟨V, h1, h2⟩ := M.ex
  exact ⟨⟨V, h1.up hu, h2⟩, M.ok, M.up.up hu⟩
theorem bdo_any (M : MemL T w0 W a E every es) (p : Plain A es Q) (g : Good A) (hok : okE E) (hm : m ∈ Q) :
    Calls Tryz.prog 14 #[ptrV a, m.val, .int .i64 0, .slice none 0 0] W fun e w' => (∃ v, e = .returned v) ∧ ((stuckOf es = true ∧ MemL T w0 w' a E every es) ∨ (stuckOf es = false ∧ ∃ x : Ent, x.m = m ∧ MemL T w0 w' a E every (es ++ [x]))) := by
  obtain ⟨V, h1, h2⟩ := M.ex
  obtain ⟨hmok, hman, _⟩ := g.ok m (p.mem hm)
  have hmay := p.may hm
  cases hst : stuckOf es with
  | true =>
    refine (logdo_no h1 M.ok m hmok hman (by rw [hmay, hst]; decide)).mono fun e w' h => ?_
    obtain ⟨hU, ev, _, he⟩ := h
    exact ⟨⟨_, he⟩, .inl ⟨rfl, M.upM hU⟩⟩
  | false =>
    have hl := p.len g
    have hn : es.length < 40 := by have := List.length_pos_iff.2 (List.ne_nil_of_mem hm); omega
    refine (logdo_yes h1 M.ok hok hn m hmok hman (by rw [hmay, hst]; rfl)).mono fun e w' h => ?_
    obtain ⟨⟨ev, _, he⟩, d⟩ := h
    obtain ⟨V', x, hx, g1, g2, g3, g4⟩ := d.ex
    refine ⟨⟨_, he⟩, .inr ⟨rfl, x, hx, ⟨V', by rw [stuckOf_snoc]; exact g1, fun k hk => ?_⟩, g2, M.up.trans d.chg (fun i hi hF => (h2 i hF).elim id (fun h => by omega))⟩⟩
    rcases g3 k hk with h | h
    · exact h2 k h
    · exact .inr (Nat.le_trans M.up.size h)
end
end Go.Proofs.YtalmjdlcogdpmaaGreatDoor

namespace Go.Proofs.YtalmjdlcogdpmaaGreatDoor
section
variable {A Q S : List Msg} {es : List Ent} {m : Msg} {i : Nat}
theorem plain_nil (h : Q.Perm A) : Plain A [] Q := ⟨h, List.Pairwise.nil, fun e h => by simp at h, fun k e h => by simp at h⟩
theorem srt_strict (g : Good A) (hp : S.Perm A) (hs : Srt S 0 S.length) : S.Pairwise fun a b => befB a b = true := by
  have hu : S.Pairwise fun a b => a.u ≠ b.u := (hp.pairwise_iff (fun {_ _} h => Ne.symm h)).2 g.u
  rw [List.pairwise_iff_getElem] at hu ⊢
  intro i j hi hj hij
  exact bef_of_ne (hs i j _ _ (Nat.zero_le _) hij hj (List.getElem?_eq_getElem hi) (List.getElem?_eq_getElem hj)) (hu i j hi hj hij)
/-- What holds ahead of round i. -/
def BAt (A S : List Msg) (i : Nat) (es : List Ent) : Prop := ∃ k, k ≤ i ∧ Plain A es (S.drop k) ∧ (k = i ∨ stuckOf es = true)
theorem BAt.start (hp : S.Perm A) : BAt A S 0 [] := ⟨0, Nat.le_refl _, plain_nil (by simpa using hp), .inl rfl⟩
theorem BAt.mem (h : S[i]? = some m) {k : Nat} (hk : k ≤ i) : m ∈ S.drop k := by
  have : (S.drop k)[i - k]? = some m := by rw [List.getElem?_drop, show k + (i - k) = i by omega]; exact h
  exact List.mem_of_getElem? this
theorem BAt.stay (b : BAt A S i es) (hs : stuckOf es = true) : BAt A S (i + 1) es := by
  obtain ⟨k, h1, h2, _⟩ := b
  exact ⟨k, by omega, h2, .inr hs⟩
theorem BAt.step (b : BAt A S i es) (g : Good A) (hS : S.Pairwise fun a b => befB a b = true) (hs : stuckOf es = false) (hm : S[i]? = some m) {x : Ent} (hx : x.m = m) : BAt A S (i + 1) (es ++ [x]) := by
  obtain ⟨k, h1, h2, h3⟩ := b
  have hk : k = i := by
    rcases h3 with h | h
    · exact h
    · rw [hs] at h; cases h
  subst hk
  obtain ⟨hl, hge⟩ := List.getElem?_eq_some_iff.1 hm
  have hd : S.drop k = m :: S.drop (k + 1) := by rw [List.drop_eq_getElem_cons hl, hge]
  refine ⟨k + 1, Nat.le_refl _, h2.step g hs (by rw [hx, hd]) (fun y hy => ?_), .inl rfl⟩
  rw [hx]
  rw [hd] at hy
  rcases List.mem_cons.1 hy with h | h
  · rw [h]; exact befB_irrefl _
  · obtain ⟨j, hj⟩ := List.getElem?_of_mem h
    rw [List.getElem?_drop] at hj
    obtain ⟨hl2, hge2⟩ := List.getElem?_eq_some_iff.1 hj
    have := List.pairwise_iff_getElem.1 hS k (k + 1 + j) hl hl2 (by omega)
    rw [hge, hge2] at this
    exact befB_asymm this
theorem BAt.done (b : BAt A S S.length es) : ∃ Q, Plain A es Q ∧ (stuckOf es = true ∨ Q = []) := by
  obtain ⟨k, h1, h2, h3⟩ := b
  refine ⟨_, h2, ?_⟩
  rcases h3 with h | h
  · right; rw [h]; simp
  · exact .inl h
end
end Go.Proofs.YtalmjdlcogdpmaaGreatDoor

namespace Go.Proofs.YtalmjdlcogdpmaaGreatDoor
open Go.RowKit
attribute [local go_sem] upUpon_value upUpon_enter upUpon_skip upUpon_row ucUpon_value ucUpon_skip ucUpon_enter ucUpon_row

abbrev worldList (E : Env) (vp vl : Value) : List Value := [vp, .int .i64 E.me, vl, .int .u64 E.seed]
set_option maxRecDepth 100000 in
set_option maxHeartbeats 2000000 in
theorem main_bad (vp vl vt : Value) (E : Env) (kd ev : Nat) (hk : kd < 256) (hv : ev < 256) (w : World) (hp : InsSlice w vp E.np E.p) (hl : LnkSlice w vl E.nl E.l) (hbad : ¬ okE E) :
    Calls Tryz.prog 3 #[.agg (worldList E vp vl).toArray, vt, .int .u8 kd, .int .u8 ev] w fun e w' => Up w w' ∧ e = .returned (.bool true) := by
  have H := Lib.hid (And.intro hp (And.intro hl hbad))
  clear hp hl hbad
  go_enter Tryz.func3, Tryz.ntmps3
  go_upto_region 1 with (fail)
  refine wp_alloc1 (A := worldList E vp vl) fun W1 hU1 hs1 bW => ?_
  have rW := bW.get
  go_wp2_with fail
  have hn : (1 + (ev : Int) % 30) = ((1 + ev % 30 : Nat) : Int) := by omega
  rw [hn]
  have HN := Lib.hid hn
  clear hn
  have hUp := fun (W : World) (hU : Up w W) => And.intro (H.out.1.up hU) (H.out.2.1.up hU)
  have HU := Lib.hid hUp
  clear hUp
  have X1 := Lib.hid (And.intro hU1 bW)
  clear hU1 bW hs1
  refine (lognew_bad vp vl E (1 + ev % 30) W1 (HU.out W1 X1.out.1).1 (HU.out W1 X1.out.1).2 H.out.2.2).mono ?_
  rintro e w2 ⟨hU2, rfl⟩
  obtain ⟨c, hc⟩ : ∃ c, vmErr E.np E.p E.me E.nl E.l = c := ⟨_, rfl⟩
  rw [hc]
  have hc0 : c ≠ 0 := by rw [← hc]; exact H.out.2.2
  have hcb : (c == 0) = false := by rw [beq_eq_false_iff_ne]; exact hc0
  have hcn : (c != 0) = true := by simp [hc0]
  have X2 := Lib.hid (And.intro (X1.out.1.trans hU2) (And.intro (X1.out.2.up hU2) (And.intro hc hc0)))
  clear hU2 rW hc hc0
  have rW := X2.out.2.1.get
  go_wp2_with fail
  refine (lognew_bad vp vl E 1 w2 (HU.out w2 X2.out.1).1 (HU.out w2 X2.out.1).2 H.out.2.2).mono ?_
  rintro e w3 ⟨hU3, rfl⟩
  have X3 := Lib.hid (And.intro (X2.out.1.trans hU3) (X2.out.2.1.up hU3))
  clear hU3 rW
  have rW := X3.out.2.get
  go_wp2_with fail
  have hn3 : ((kd : Int) % 3) = ((kd % 3 : Nat) : Int) := by omega
  rw [hn3]
  clear hn3
  refine (pendnew_any (kd % 3) (by omega) w3).mono ?_
  rintro e w4 ⟨q, F, rfl, hU4, _, _⟩
  have X4 := Lib.hid (And.intro (X3.out.1.trans hU4) (X3.out.2.up hU4))
  clear hU4 rW
  have rW := X4.out.2.get
  go_wp2_with fail
  refine (vmcheck_any vp vl E.me E.seed E.np E.nl E.p E.l w4 (HU.out w4 X4.out.1).1 (HU.out w4 X4.out.1).2).mono ?_
  rintro e w5 ⟨rfl, hU5⟩
  rw [X2.out.2.2.1]
  have hcc : (c == c) = true := by simp
  have X5 := Lib.hid (X4.out.1.trans hU5)
  clear hU5 rW
  go_wp2
  go_ret
  exact ⟨X5.out, rfl⟩
end Go.Proofs.YtalmjdlcogdpmaaGreatDoor

namespace Go.Proofs.YtalmjdlcogdpmaaGreatDoor
open Go.RowKit
section
variable {T K K' : Nat → Prop} {w0 W W' : World} {a q : Nat} {E : Env} {every : Nat} {es : List Ent} {Q : List Msg} {m : Msg} {t : Nat}
/-- What is kept has turned, or something new is to be kept. -/
theorem Mem.off {S : Nat → Prop} (M : Mem T K w0 W a q E every es Q) (hc : Chg S W W') (hS : ∀ k, S k → K k) (hT : ∀ k, k < w0.heap.size → S k → T k) (hK : ∀ k, K' k → K k ∨ W.heap.size ≤ k) (hl : ∀ k, K' k → k < W'.heap.size) : Mem T K' w0 W' a q E every es Q := by
  obtain ⟨V, F, h1, h2, h3, h4, h5, h6⟩ := M.ex
  have hf := h1.r.foot_lt
  have hq := h2.lt
  refine ⟨⟨V, F, h1.chg hc (fun k hk => (h6 k (hS k hk)).1), h2.chg hc (fun k hk hs => (h6 k (hS k hs)).2 hk), h3, h4, h5, fun k hk => ?_⟩, hl, M.ok, M.up.trans hc hT⟩
  rcases hK k hk with h | h
  · exact h6 k h
  · exact ⟨fun e => by have := hf k e; omega, fun e => by have := hq k e; omega⟩
theorem Mem.push (M : Mem T K w0 W a q E every es Q) (hn : Q.length ≤ 60) (hmt : m.t = t) (ht : t ≤ 2000000000) (no : ∀ y ∈ Q, ¬ (y.f = m.f ∧ y.u = m.u)) :
    Calls Tryz.prog 10 #[ptrV q, m.val] W fun e w' => e = .returned (.int .i64 0) ∧ Mem T K w0 w' a q E every es (m :: Q) ∧ Chg (fun k => ¬ K k) W w' := by
  obtain ⟨V, F, h1, h2, h3, h4, h5, h6⟩ := M.ex
  refine (pendpush_any W h2 hn hmt ht no).mono fun e w' h => ?_
  obtain ⟨he, F', hT⟩ := h
  exact ⟨he, Mem.queue M h1 h2 h3 h4 h5 h6 hT⟩
theorem Mem.qlen (M : Mem T K w0 W a q E every es Q) (hn : Q.length ≤ 60) : Calls Tryz.prog 12 #[ptrV q] W fun e w' => W = w' ∧ e = .returned (.int .i64 Q.length) := by
  obtain ⟨V, F, h1, h2, _⟩ := M.ex
  exact pendlen_any W h2 hn
theorem Mem.last (M : Mem T K w0 W a q E every es Q) : Calls Tryz.prog 7 #[ptrV a] W fun e w' => Mem T K w0 w' a q E every es Q ∧ Up W w' ∧ ((es = [] ∧ e = .returned (.tuple #[zeroMsg.val, .bool false])) ∨ ∃ x, es.getLast? = some x ∧ e = .returned (.tuple #[x.m.val, .bool true])) := by
  obtain ⟨V, F, h1, h2, _⟩ := M.ex
  exact (loglast_any h1 (by have := M.ok.n; omega)).mono fun e w' h => ⟨M.upM h.1, h.1, h.2⟩
end
end Go.Proofs.YtalmjdlcogdpmaaGreatDoor

namespace Go.Proofs.YtalmjdlcogdpmaaGreatDoor
open Go.RowKit
section
variable {T K : Nat → Prop} {w0 W W' : World} {a q : Nat} {E : Env} {every : Nat} {es : List Ent} {A Q : List Msg} {m : Msg}
theorem entsOk_take (k : EntsOk E zeroSta es) (n : Nat) : EntsOk E zeroSta (es.take n) := by
  refine ⟨fun e he => k.m e (List.mem_of_mem_take he), fun j e hj => ?_, fun j e hj => ?_, fun e he => ?_, by have := k.n; rw [List.length_take]; omega, k.g⟩
  · have hl := (List.getElem?_eq_some_iff.1 hj).1
    rw [List.length_take] at hl
    rw [List.getElem?_take_of_lt (by omega)] at hj
    rw [List.take_take, Nat.min_eq_left (by omega)]
    exact k.f j e hj
  · have hl := (List.getElem?_eq_some_iff.1 hj).1
    rw [List.length_take] at hl
    rw [List.getElem?_take_of_lt (by omega)] at hj
    rw [List.take_take, Nat.min_eq_left (by omega)]
    exact k.s j e hj
  · have hl := (List.getElem?_eq_some_iff.1 he).1
    rw [List.length_take] at hl
    rw [List.getElem?_take_of_lt (by omega)] at he
    exact k.a e he
theorem ents_s8 (k : EntsOk E zeroSta es) (hok : okE E) : ∀ e ∈ es, e.sent.length ≤ 8 := fun e he => by
  obtain ⟨j, hj⟩ := List.getElem?_of_mem he
  rw [k.s j e hj]
  exact vmRun_o8 hok (k.m e he) (entsOk_sta k hok j (by have := (List.getElem?_eq_some_iff.1 hj).1; omega))
theorem Mem.back (M : Mem T K w0 W a q E every es Q) (p : Plain A es Q) (hok : okE E) (hlast : ∀ e, es.getLast? = some e → befB e.m m = false) (hne : es ≠ []) :
    Calls Tryz.prog 9 #[ptrV a, m.val] W fun e w' => ∃ ov k xs, e = .returned ov ∧ backAt es m k ∧ k < es.length ∧ (∀ K' : Nat → Prop, (∀ j, K' j → K j ∨ sameBlock ov j) → Mem T K' w0 w' a q E every (es.take k) Q) ∧ Chg (fun k => ¬ K k) W w' ∧
      OwnR w' 51 19 ov (es.length - k) xs ∧ BackOut E zeroSta es k es.length xs ∧ ∀ j, sameBlock ov j → W.heap.size ≤ j := by
  obtain ⟨V, F, h1, h2, h3, h4, h5, h6⟩ := M.ex
  refine (logback_any h1 M.ok hok (entsOk_sta M.ok hok) (ents_s8 M.ok hok) m hlast hne).mono fun e w' h => ?_
  obtain ⟨ov, k, V', xs, he, b⟩ := h
  have hturn : ∀ j, turns a V' j → turns a V j := fun j hj => hj.imp id (b.same j)
  have hfoot : ∀ j, foot a V' E (es.take k) j → foot a V E es j := fun j hj => by
    obtain ⟨v1, v2, v3, v4⟩ := b.vs
    rcases hj with h | h | h | h | h | ⟨e, he, h⟩
    · exact .inl h
    · exact .inr (.inl (b.same j h))
    · exact .inr (.inr (.inl (by rw [v1, v3] at h; exact h)))
    · exact .inr (.inr (.inr (.inl (by rw [v2, v4] at h; exact h))))
    · exact .inr (.inr (.inr (.inr (.inl h))))
    · exact .inr (.inr (.inr (.inr (.inr ⟨e, List.mem_of_mem_take he, h⟩))))
  have hfl := h1.r.foot_lt
  have hql := h2.lt
  refine ⟨ov, k, xs, he, b.at', b.lt, fun K' hK' => ⟨⟨V', F, by rw [← stuck_back p b.lt]; exact b.log, h2.chg b.chg (fun j hj hja => h3 j (.inl hja) hj), fun j hj => h3 j (hfoot j hj), fun j hj => h4 j (hturn j hj), h5, fun j hj => ?_⟩,
    fun j hj => ?_, entsOk_take M.ok k, M.up.trans b.chg (fun j hj hja => (h4 j (.inl hja)).elim id (fun h => by omega))⟩, b.chg.mono (fun j _ hja hK => (h6 j hK).1 (.inl hja)), b.own, b.out, b.new⟩
  · rcases hK' j hj with h | h
    · exact ⟨fun hf => (h6 j h).1 (hfoot j hf), (h6 j h).2⟩
    · have := b.new j h
      exact ⟨fun hf => by have := hfl j (hfoot j hf); omega, fun hf => by have := hql j hf; omega⟩
  · rcases hK' j hj with h | h
    · exact Nat.lt_of_lt_of_le (M.kl j h) b.chg.size
    · exact b.own.block_lt j h
end
end Go.Proofs.YtalmjdlcogdpmaaGreatDoor
