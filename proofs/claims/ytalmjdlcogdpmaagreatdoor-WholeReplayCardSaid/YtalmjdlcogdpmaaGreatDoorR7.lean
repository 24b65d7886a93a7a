/- Contracts and plain laws for the statement of this claim; no condition. Here: A log that has an entry more. log.done.entry: an entry, with a copy of what was sent. log.Log.Do. slices.swapRangeCmpFunc, rotateCmpFunc and insertionSortCmpFunc on messages. What slices.symMergeCmpFunc rests on: plain. A heap of messages: plain. append on rows of messages. package heap: none, New, Len, First. A map of slices by int64 in memory. copy on rows of messages. package ladder: the object in memory; none, New, Len, above, behind. -/
import Derived.Test.YtalmjdlcogdpmaaGreatDoorR6
import Derived.Test.YtalmjdlcogdpmaaGreatDoorR5
import Derived.Deep.Cut
import Derived.Laws.EntriesVeiled
import Derived.Maps.RangeWalk
import Derived.Carry
set_option linter.unusedVariables false
set_option linter.unusedSimpArgs false

namespace Go.Proofs.YtalmjdlcogdpmaaGreatDoor
open Go.RowKit
/-- A log with an entry more. -/
theorem did_log {w W9 W10 W' : World} {a : Nat} {V : LogV} {E : Env} {i0 : Sta} {es : List Ent} {every : Nat} {stuck : Bool} {v' : Value} {x : Ent} {s : Sta} (h : LogIs w a V E i0 es every stuck) (hn : es.length < 40) (he : EntsOk E i0 es) (hs : stOf E i0 (es.map Ent.m) = s) (hm : okM x.m)
    (hU : Up w W9) (hown : OwnR W10 76 10 v' (es.length + 1) (entCells es ++ x.list)) (hch : Chg (sameBlock V.lv) W9 W10) (hnew : ∀ k, sameBlock v' k → sameBlock V.lv k ∨ W9.heap.size ≤ k) (hc' : Chg (· = a) W10 W')
    (hb : Blk W' a (logList { V with lv := v' } E (nextS E s x.m) every (x.f != 0)))
    (hsv : OwnR W9 43 7 x.sv x.sent.length (msgCells x.sent)) (hsb : ∀ k, sameBlock x.sv k → w.heap.size ≤ k) (hah : ∀ b, x.ah = some b → w.heap.size ≤ b ∧ Blk W9 b s.list) (hah0 : es = [] → x.ah ≠ none)
    (hf : x.f = (vmRun (envOf E x.m) s).f) (hsl : x.sent.length = (vmRun (envOf E x.m) s).o.length) :
    LogIs W' a { V with lv := v' } E i0 (es ++ [x]) every (x.f != 0) ∧ EntsOk E i0 (es ++ [x]) ∧ (∀ k, turns a { V with lv := v' } k → turns a V k ∨ w.heap.size ≤ k) ∧ (∀ k, foot a { V with lv := v' } E (es ++ [x]) k → foot a V E es k ∨ w.heap.size ≤ k) := by
  have hflt := h.r.foot_lt
  have hUs := hU.1.size
  have halt : a < w.heap.size := hflt a (.inl rfl)
  have hna : ¬ sameBlock V.lv a := h.ap
  have hcw : Chg (turns a V) w W' := ((Chg.of_up hU).trans hch (fun _ _ e => e)).mono (T := turns a V) (fun _ _ e => .inr e) |>.trans hc' (fun _ _ e => .inl e)
  have firm_lt : ∀ k, firm V E es k → k < w.heap.size := fun k hk => hflt k (foot_iff.2 (.inr hk))
  have hft : ∀ k, firm V E es k → ¬ turns a V k := fun k hk ht => by
    rcases ht with rfl | ht
    · exact h.fa hk
    · exact h.fr k ht hk
  have hv'a : ¬ sameBlock v' a := fun e => by rcases hnew a e with e' | e'; exact hna e'; omega
  have hsvx : ∀ k, sameBlock x.sv k → k < W9.heap.size := hsv.block_lt
  have hahx : ∀ b, x.ah = some b → b < W9.heap.size := fun b hb => (hah b hb).2.lt (by simp)
  have hnot : ∀ k, w.heap.size ≤ k → ¬ (sameBlock V.lv k) := fun k hk e => by have := hflt k (.inr (.inl e)); omega
  have moreO : ∀ {v : Value} {n : Nat} {xs : List Value}, OwnR W9 43 7 v n xs → (∀ k, sameBlock v k → w.heap.size ≤ k) → OwnR W' 43 7 v n xs := fun ho hk =>
    (ho.chg hch (fun k h1 h2 => hnot k (hk k h1) h2)).chg hc' (fun k h1 e => by have := hk k h1; omega)
  have moreB : ∀ {b : Nat} {cs : List Value}, Blk W9 b cs → w.heap.size ≤ b → Blk W' b cs := fun ho hk =>
    (ho.chg hch (fun h2 => hnot _ hk h2)).chg hc' (fun e => by omega)
  refine ⟨⟨⟨?_, ?_, ?_, ?_, ?_, ?_, ?_, ?_, ?_, ?_⟩, ?_, ?_, hv'a, ?_, ?_⟩, ⟨?_, ?_, ?_, ?_, ?_, he.g⟩, ?_, ?_⟩
  · exact ⟨fun i hi => by have := hb.get i (by simp at hi ⊢; omega); rw [this]; rcases i with _ | _ | _ | _ | i <;> first | rfl | (simp only [List.length_cons, List.length_nil] at hi; omega)⟩
  · exact hb.at (i := 16) rfl
  · have h1 := hown.chg hc' (fun k hk e => by subst e; exact hv'a hk)
    rw [entCells_snoc, List.length_append]; exact h1
  · exact h.r.ins.chg hcw fun k hk => hft k (.inl hk)
  · exact h.r.lnk.chg hcw fun k hk => hft k (.inr (.inl hk))
  · exact fun k hk => Nat.lt_of_lt_of_le (h.r.insb k hk) hcw.size
  · exact fun k hk => Nat.lt_of_lt_of_le (h.r.lnkb k hk) hcw.size
  · exact hcw.cell (hft 0 (.inr (.inr (.inl rfl)))) h.r.g
  · intro k e b hk hb'
    rcases Nat.lt_or_ge k es.length with h1 | h1
    · rw [List.getElem?_append_left h1] at hk
      rw [List.take_append_of_le_length (by omega)]
      exact (h.r.ahead k e b hk hb').chg hcw (hft b (.inr (.inr (.inr ⟨e, List.mem_of_getElem? hk, .inr hb'⟩))))
    · have hk0 : k = es.length := by
        have := (List.getElem?_eq_some_iff.1 hk).1
        simp at this; omega
      subst hk0
      rw [List.getElem?_append_right (Nat.le_refl _)] at hk
      simp at hk
      subst hk
      rw [List.take_left, hs]
      exact moreB (hah b hb').2 (hah b hb').1
  · intro e hm'
    rcases List.mem_append.1 hm' with h1 | h1
    · exact (h.r.sent e h1).chg hcw fun k hk => hft k (.inr (.inr (.inr ⟨e, h1, .inl hk⟩)))
    · have : e = x := by simpa using h1
      subst this
      exact moreO hsv hsb
  · rw [List.map_append, List.map_cons, List.map_nil, stOf_snoc, hs]; exact hb
  · exact fun j => (hcw.marks _).trans (h.fz j)
  · rintro (hk | hk | hk | ⟨e, hm', hk⟩)
    · exact h.fa (.inl hk)
    · exact h.fa (.inr (.inl hk))
    · exact h.fa (.inr (.inr (.inl hk)))
    · rcases List.mem_append.1 hm' with h1 | h1
      · exact h.fa (.inr (.inr (.inr ⟨e, h1, hk⟩)))
      · have : e = x := by simpa using h1
        subst this
        rcases hk with hk | hk
        · have := hsb a hk; omega
        · have := (hah a hk).1; omega
  · intro k hkv hk
    have hkx : w.heap.size ≤ k → sameBlock V.lv k ∨ W9.heap.size ≤ k := fun _ => hnew k hkv
    rcases hk with hk | hk | hk | ⟨e, hm', hk⟩
    · have := firm_lt k (.inl hk)
      rcases hnew k hkv with h1 | h1
      · exact h.fr k h1 (.inl hk)
      · omega
    · have := firm_lt k (.inr (.inl hk))
      rcases hnew k hkv with h1 | h1
      · exact h.fr k h1 (.inr (.inl hk))
      · omega
    · have := firm_lt k (.inr (.inr (.inl hk)))
      rcases hnew k hkv with h1 | h1
      · exact h.fr k h1 (.inr (.inr (.inl hk)))
      · omega
    · rcases List.mem_append.1 hm' with h1 | h1
      · have h2 : firm V E es k := .inr (.inr (.inr ⟨e, h1, hk⟩))
        have := firm_lt k h2
        rcases hnew k hkv with h3 | h3
        · exact h.fr k h3 h2
        · omega
      · have : e = x := by simpa using h1
        subst this
        have hge : w.heap.size ≤ k ∧ k < W9.heap.size := by
          rcases hk with hk | hk
          · exact ⟨hsb k hk, hsvx k hk⟩
          · exact ⟨(hah k hk).1, hahx k hk⟩
        rcases hnew k hkv with h3 | h3
        · exact hnot k hge.1 h3
        · omega
  · intro e hm'
    rcases List.mem_append.1 hm' with h1 | h1
    · exact he.m e h1
    · have : e = x := by simpa using h1
      subst this; exact hm
  · intro k e hk
    rcases Nat.lt_or_ge k es.length with h1 | h1
    · rw [List.getElem?_append_left h1] at hk
      rw [List.take_append_of_le_length (by omega)]
      exact he.f k e hk
    · have hk0 : k = es.length := by
        have := (List.getElem?_eq_some_iff.1 hk).1
        simp at this; omega
      subst hk0
      rw [List.getElem?_append_right (Nat.le_refl _)] at hk
      simp at hk
      subst hk
      rw [List.take_left, hs]; exact hf
  · intro k e hk
    rcases Nat.lt_or_ge k es.length with h1 | h1
    · rw [List.getElem?_append_left h1] at hk
      rw [List.take_append_of_le_length (by omega)]
      exact he.s k e hk
    · have hk0 : k = es.length := by
        have := (List.getElem?_eq_some_iff.1 hk).1
        simp at this; omega
      subst hk0
      rw [List.getElem?_append_right (Nat.le_refl _)] at hk
      simp at hk
      subst hk
      rw [List.take_left, hs]; exact hsl
  · intro e hk
    rcases es with _ | ⟨y, ys⟩
    · simp at hk
      subst hk
      exact hah0 rfl
    · exact he.a e (by simpa using hk)
  · have := he.n
    simp
    omega
  · rintro k (rfl | hk)
    · exact .inl (.inl rfl)
    · rcases hnew k hk with h1 | h1
      · exact .inl (.inr h1)
      · exact .inr (by omega)
  · rintro k (rfl | hk | hk | hk | hk | ⟨e, hm', hk⟩)
    · exact .inl (.inl rfl)
    · rcases hnew k hk with h1 | h1
      · exact .inl (.inr (.inl h1))
      · exact .inr (by omega)
    · exact .inl (.inr (.inr (.inl hk)))
    · exact .inl (.inr (.inr (.inr (.inl hk))))
    · exact .inl (.inr (.inr (.inr (.inr (.inl hk)))))
    · rcases List.mem_append.1 hm' with h1 | h1
      · exact .inl (.inr (.inr (.inr (.inr (.inr ⟨e, h1, hk⟩)))))
      · have : e = x := by simpa using h1
        subst this
        rcases hk with hk | hk
        · exact .inr (hsb k hk)
        · exact .inr (hah k hk).1

end Go.Proofs.YtalmjdlcogdpmaaGreatDoor

namespace Go.Proofs.YtalmjdlcogdpmaaGreatDoor
open Go.RowKit
attribute [local go_sem] upUpon_value upUpon_enter upUpon_skip upUpon_row ucUpon_value ucUpon_skip ucUpon_enter ucUpon_row

/-- An entry as it is handed out. -/
abbrev entList (m : Msg) (s : Sta) (f : Int) (v : Value) : List Value := [.int .i64 m.t, .int .i64 m.f, .int .i64 m.s, .int .i64 m.to, .int .i64 m.v, .int .i64 m.u, .bool m.an, .int .i64 (s.r 0), .int .i64 (s.r 1), .int .i64 (s.r 2), .int .i64 (s.r 3), .int .i64 (s.r 4), .int .i64 (s.r 5), .int .i64 (s.r 6), .int .i64 (s.r 7), .int .i64 s.d, .int .i64 s.n, .int .i64 f, v]

theorem infoEnt : (Tryz.prog.info? 51).map (·.size) = some 19 := by kernel_rfl
set_option maxRecDepth 100000 in
set_option maxHeartbeats 2000000 in
theorem entry_any (m : Msg) (f : Int) (sv : Value) (sent : List Msg) (ahv : Value) (hah : ahv.oneCell' = true) (s : Sta) (w : World) (hsv : OwnR w 43 7 sv sent.length (msgCells sent)) (hsl : sent.length ≤ 8) :
    Calls Tryz.prog 25 #[.agg #[.int .i64 m.t, .int .i64 m.f, .int .i64 m.s, .int .i64 m.to, .int .i64 m.v, .int .i64 m.u, .bool m.an, .int .i64 f, sv, ahv], s.val] w fun e w' => Up w w' ∧
      ∃ v, e = .returned (.agg (entList m s f v).toArray) ∧ OwnR w' 43 7 v sent.length (msgCells sent) ∧ ∀ k, sameBlock v k → w.heap.size ≤ k := by
  obtain ⟨i0, hi0, hz0, hz1, hz2⟩ := info_parts infoMsg
  have HI := Lib.hid (And.intro hi0 (And.intro hz0 (And.intro hz1 hz2)))
  have HO := Lib.hid hsv
  have hov : sv.oneCell' = true := by
    rcases hsv.is with ⟨rfl, _⟩ | ⟨g, cap, rfl, _⟩ <;> rfl
  clear hi0 hz0 hz1 hz2 hsv
  simp only [Sta.val, Sta.cells]
  go_enter Tryz.func25, Tryz.ntmps25
  go_upto_region 1 with (fail)
  refine wp_alloc3 fun W1 hU1 hs1 b0 b1 b2 => ?_
  have k0 := b0.lift
  have k1 := b1.lift
  have HB := Lib.hid (And.intro b0 (And.intro b1 b2))
  clear b0 b1 b2
  refine region_upL0 [0, 1, 2, 3, 4, 5, 6] [7] 8 [9] (by kernel_rfl) (by kernel_rfl) ?_
  simp only [getOps, List.getElem?_cons_zero, List.getElem?_cons_succ]
  repeat (apply wpUp_step rfl rfl; (focus (intro W hU; go_simp; exact ⟨rfl, Up.refl _⟩)); go_simp)
  refine wpUp_nil fun W2 hW2 => ?_
  clear k0 k1
  have hU2 : Up W1 W2 := up_drew.trans hW2
  have hsrc := (HO.out.up (hU1.trans hU2)).src
  refine wpNew_append rfl (.const (.slice none 0 0)) (.tmp 11) 39 rfl 43 i0 _ 7 56 Tryz.underlying39 HI.out.1 HI.out.2.1 HI.out.2.2.1 HI.out.2.2.2 rfl (by decide) rfl _ sent.length _ rfl (msgCells_length _) hsrc (msgs_one _) (by unfold maxLen; omega) (by omega) ?_
  intro v W3 hU3 hov3 hnew
  refine wpNew_nil fun W4 hW4 => ?_
  obtain ⟨pv, cv, rfl⟩ := hov3.form
  have hU4 : Up W1 W4 := (hU2.trans hU3).trans hW4
  have b2 := HB.out.2.2.up hU4
  have hov4 := hov3.up hW4
  have rR := b2.get
  have hF : ∀ j, W4.frozen? ⟨w.heap.size + 1 + 1, j, none⟩ = false := fun j => new_free w (.map #[] 0) (hU1.trans hU4) j _ (by omega)
  have bR := Blk.sets (entList m s f (.slice pv sent.length cv)) 0 b2 (by simp)
  have hch := Chg.setCells (S := (· = w.heap.size + 1 + 1)) (a := W4) (b := w.heap.size + 1 + 1) (Or.inl rfl) (entList m s f (.slice pv sent.length cv)) 0 (Chg.refl _ W4)
  simp only [setL, List.set_cons_succ, List.set_cons_zero] at bR
  have hgt : ∀ k, sameBlock (.slice pv sent.length cv) k → w.heap.size + 3 ≤ k := fun k hk => by have := hnew k hk; have := hU2.1.size; omega
  have hov5 := hov4.chg hch (fun k hk e => by have := hgt k hk; omega)
  have hU5 : Up w (W4.setCells (w.heap.size + 1 + 1) 0 (entList m s f (.slice pv sent.length cv))) := ((Chg.of_up (hU1.trans hU4)).trans hch (fun _ _ h => h)).to_up fun k hk e => by omega
  have H := Lib.hid (And.intro hU5 (And.intro hov5 (And.intro hgt bR)))
  have hth : W4.there (w.heap.size + 1 + 1) 0 19 := b2.there hF (by simp)
  clear hU5 hov5 hgt bR hch hov4 hov3 hnew b2 rR hF
  go_simp
  refine wpList_plain rfl fun K hK => ?_
  go_simp
  refine hK _ _ ?_
  clear hK K
  refine wpList_store_mid rfl _ _ _ rfl (w.heap.size + 1 + 1) 0 (entList m s f (.slice pv sent.length cv)).toArray rfl rfl hth infoEnt (by simp [Value.oneCell']) ?_
  generalize (W4.setCells (w.heap.size + 1 + 1) 0 (entList m s f (.slice pv sent.length cv))) = W5 at *
  go_wp2
  exact bodyPost_ret (results_blk rfl rfl H.out.2.2.2 Tryz.underlying51 rfl infoEnt) rfl ⟨H.out.1, _, rfl, H.out.2.1, fun k hk => by have := H.out.2.2.1 k hk; omega⟩
end Go.Proofs.YtalmjdlcogdpmaaGreatDoor

namespace Go.Proofs.YtalmjdlcogdpmaaGreatDoor
open Go.RowKit
attribute [local go_sem] upUpon_value upUpon_enter upUpon_skip upUpon_row ucUpon_value ucUpon_skip ucUpon_enter ucUpon_row sUpon_value sUpon_skip sUpon_enter

theorem setL_all {cs vs : List Value} (h : vs.length = cs.length) : setL cs 0 vs = vs := by
  apply List.ext_getElem?
  intro i
  rcases Nat.lt_or_ge i vs.length with h1 | h1
  · have := setL_in vs cs 0 i h1 (by omega)
    rwa [Nat.zero_add] at this
  · rw [List.getElem?_eq_none (by rw [setL_length]; omega), List.getElem?_eq_none h1]
/-- A struct of type api.Entry. -/
def EntV (ev : Value) : Prop := ∃ m s f p n c, ev = .agg (entList m s f (.slice p n c)).toArray
/-- What a log is behind an event that was done. -/
structure DidOk (w w' : World) (a : Nat) (V : LogV) (E : Env) (i0 : Sta) (es : List Ent) (every : Nat) (m : Msg) : Prop where
  ex : ∃ V' x, x.m = m ∧ LogIs w' a V' E i0 (es ++ [x]) every (x.f != 0) ∧ EntsOk E i0 (es ++ [x]) ∧ (∀ k, turns a V' k → turns a V k ∨ w.heap.size ≤ k) ∧ (∀ k, foot a V' E (es ++ [x]) k → foot a V E es k ∨ w.heap.size ≤ k)
  chg : Chg (turns a V) w w'

set_option maxRecDepth 100000 in
set_option maxHeartbeats 2000000 in
/-- Where it may not be done. -/
theorem logdo_no {a : Nat} {V : LogV} {E : Env} {i0 : Sta} {es : List Ent} {every : Nat} {stuck : Bool} {w : World} (h : LogIs w a V E i0 es every stuck) (he : EntsOk E i0 es) (m : Msg) (hm : okM m) (han : m.an = false) (hno : mayLog es stuck m ≠ 0) :
    Calls Tryz.prog 14 #[.pointer (some ⟨a, 0, none⟩), m.val, .int .i64 0, .slice none 0 0] w fun e w' => Up w w' ∧ ∃ ev, EntV ev ∧ e = .returned (.tuple #[ev, .int .i64 (mayLog es stuck m)]) := by
  obtain ⟨c, hc⟩ : ∃ c, mayLog es stuck m = c := ⟨_, rfl⟩
  rw [hc] at hno ⊢
  have hcb : (c == 0) = false := by rw [beq_eq_false_iff_ne]; exact hno
  have hcn : (c != 0) = true := by simp [hno]
  have H := Lib.hid (And.intro h (And.intro he (And.intro hm (And.intro han hc))))
  clear h he hm han hc
  simp only [Msg.val]
  go_enter Tryz.func14, Tryz.ntmps14
  go_upto_region 1 with (fail)
  refine wp_alloc2 fun W hU hsz bM bR => ?_
  have hL := H.out.1.up hU
  have rM := bM.get
  have HN := Lib.hid (lognone_any a W (hL.b.at (i := 4) rfl))
  have HM := Lib.hid (logmay_any hL (by have := H.out.2.1.n; omega) m H.out.2.2.1 H.out.2.2.2.1)
  go_wp2_with fail
  refine HN.out.mono ?_
  rintro e w2 ⟨rfl, rfl⟩
  go_wp2_with fail
  refine HM.out.mono ?_
  rintro e w3 ⟨hU3, rfl⟩
  rw [H.out.2.2.2.2]
  have bR3 := bR.up hU3
  have hF : ∀ j, w3.frozen? ⟨w.heap.size + 1, j, none⟩ = false := fun j => new_free w (.map #[] 0) (hU.trans hU3) j _ (by omega)
  have hth : w3.there (w.heap.size + 1) 0 19 := bR3.there hF (by simp)
  have bR4 := Blk.sets (entList zeroMsg ⟨fun _ => 0, 0, 0⟩ 0 (.slice none 0 0)) 0 bR3 (by simp)
  have hU4 : Up w (w3.setCells (w.heap.size + 1) 0 (entList zeroMsg ⟨fun _ => 0, 0, 0⟩ 0 (.slice none 0 0))) := (Chg.setCells (S := (· = w.heap.size + 1)) (Or.inl rfl) _ 0 (Chg.of_up (hU.trans hU3))).to_up fun k hk e => by omega
  have H4 := Lib.hid (And.intro hU4 bR4)
  clear hL rM HN HM bR4 hU4 hF bR3
  go_upto_region 5 with (fail)
  apply wp_region_lit
  refine wpList_plain rfl fun K hK => ?_
  go_simp
  refine hK _ _ ?_
  clear hK K
  refine wpList_plain rfl fun K hK => ?_
  go_simp
  refine hK _ _ ?_
  clear hK K
  refine wpList_store_mid rfl _ _ _ rfl (w.heap.size + 1) 0 (entList zeroMsg ⟨fun _ => 0, 0, 0⟩ 0 (.slice none 0 0)).toArray rfl rfl hth infoEnt (by simp [Value.oneCell']) ?_
  simp only [List.toList_toArray]
  generalize (w3.setCells (w.heap.size + 1) 0 (entList zeroMsg ⟨fun _ => 0, 0, 0⟩ 0 (.slice none 0 0))) = W5 at *
  go_wp2
  exact bodyPost_ret (w := W5) (results_blk_tmp rfl rfl H4.out.2 Tryz.underlying51 rfl infoEnt) rfl ⟨H4.out.1, _, ⟨zeroMsg, ⟨fun _ => 0, 0, 0⟩, 0, none, 0, 0, rfl⟩, rfl⟩

theorem infoDone : (Tryz.prog.info? 76).map (fun i => (i.zero, i.size, i.bytes)) = some (some (.agg #[.int .i64 0, .int .i64 0, .int .i64 0, .int .i64 0, .int .i64 0, .int .i64 0, .bool false, .int .i64 0, .slice none 0 0, .pointer none]), 10, 96) := by kernel_rfl
theorem entsOk_sta {E : Env} {i0 : Sta} {es : List Ent} (h : EntsOk E i0 es) (hok : okE E) : ∀ k, k ≤ es.length → GoodSta (stOf E i0 ((es.take k).map Ent.m)) := fun k hk => by
  have := stOf_good hok ((es.take k).map Ent.m) (k := 0) (s := i0) (fun x hx => by
    obtain ⟨e, he, rfl⟩ := List.mem_map.1 hx
    exact h.m e (List.mem_of_mem_take he)) (by have := h.n; simp; omega) h.g
  exact this.sta (by have := h.n; simp; omega)

set_option maxRecDepth 100000 in
set_option maxHeartbeats 2000000 in
theorem logdo_yes {a : Nat} {V : LogV} {E : Env} {i0 : Sta} {es : List Ent} {every : Nat} {stuck : Bool} {w : World} (h : LogIs w a V E i0 es every stuck) (he : EntsOk E i0 es) (hok : okE E) (hn : es.length < 40) (m : Msg) (hm : okM m) (han : m.an = false) (hyes : mayLog es stuck m = 0) :
    Calls Tryz.prog 14 #[.pointer (some ⟨a, 0, none⟩), m.val, .int .i64 0, .slice none 0 0] w fun e w' => (∃ ev, EntV ev ∧ e = .returned (.tuple #[ev, .int .i64 0])) ∧ DidOk w w' a V E i0 es every m := by
  obtain ⟨s, hs⟩ : ∃ s, stOf E i0 (es.map Ent.m) = s := ⟨_, rfl⟩
  have hgs : GoodSta s := by have := entsOk_sta he hok es.length (Nat.le_refl _); rwa [List.take_length, hs] at this
  have H := Lib.hid (And.intro h (And.intro he (And.intro hm (And.intro han hyes))))
  have HS := Lib.hid (And.intro hs (And.intro hgs (And.intro hok hn)))
  clear h he hm han hyes hs hgs hok hn
  simp only [Msg.val]
  go_enter Tryz.func14, Tryz.ntmps14
  go_upto_region 1 with (fail)
  refine wp_alloc2 fun W hU hsz bM bR => ?_
  have hL := H.out.1.up hU
  have rM := bM.get
  have HN := Lib.hid (lognone_any a W (hL.b.at (i := 4) rfl))
  have HM := Lib.hid (logmay_any hL (by have := H.out.2.1.n; omega) m H.out.2.2.1 H.out.2.2.2.1)
  go_wp2_with fail
  refine HN.out.mono ?_
  rintro e w2 ⟨rfl, rfl⟩
  go_wp2_with fail
  refine HM.out.mono ?_
  rintro e w3 ⟨hU3, rfl⟩
  rw [H.out.2.2.2.2]
  have hL3 := hL.up hU3
  have bM3 := bM.up hU3
  have rM := bM3.get
  have HR := Lib.hid (logrun_any hL3 HS.out.2.2.1 m H.out.2.2.1 s HS.out.1 HS.out.2.1)
  clear hL HN HM hL3
  go_wp2_with fail
  refine HR.out.mono ?_
  rintro e w4 ⟨hU4, sv, sent, hsl, rfl, hov, hnb⟩
  clear HR rM
  obtain ⟨f, hf⟩ : ∃ f, (vmRun (envOf E m) s).f = f := ⟨_, rfl⟩
  obtain ⟨o, ho⟩ : ∃ o, (vmRun (envOf E m) s).o = o := ⟨_, rfl⟩
  obtain ⟨s', hs'⟩ : ∃ s', nextS E s m = s' := ⟨_, rfl⟩
  rw [ho] at hsl
  rw [hf, hs']
  have HV := Lib.hid (And.intro hf (And.intro ho (And.intro hs' hsl)))
  clear hf ho hs' hsl
  obtain ⟨ps, cs, rfl⟩ := hov.form
  simp only [Ent.list, Option.map, Sta.val]
  go_upto_region 7 with (fail)
  refine wp_alloc2 fun W5 hU5 hsz5 bD bS => ?_
  have hUw5 : Up w W5 := ((hU.trans hU3).trans hU4).trans hU5
  have hL5 := H.out.1.up hUw5
  have hb5 := hL5.b
  rw [HS.out.1, logList] at hb5
  have rL := hb5.get
  clear hb5
  go_upto_region 8 with (fail)
  refine wp_alloc1 fun W6 hU6 hsz6 bT => ?_
  obtain ⟨D, hD⟩ : ∃ D, w4.heap.size = D := ⟨_, rfl⟩
  obtain ⟨S, hS⟩ : ∃ S, D + 1 = S := ⟨_, rfl⟩
  have hT5 : W5.heap.size = D + 2 := by omega
  obtain ⟨T, hT⟩ : ∃ T, D + 2 = T := ⟨_, rfl⟩
  obtain ⟨R, hR⟩ : ∃ R, w.heap.size + 1 = R := ⟨_, rfl⟩
  rw [hD] at bD
  rw [hD, hS] at bS
  rw [hT5, hT] at bT
  rw [hR] at bR
  simp only [hD, hS, hT, hR]
  clear rL
  have hUw6 := hUw5.trans hU6
  have HDue := Lib.hid (logdue_any (H.out.1.up hUw6) (by have := H.out.2.1.n; omega))
  go_wp2_with fail
  refine HDue.out.mono ?_
  rintro e W8 ⟨hU8, bd, rfl, hbd⟩
  have hUw8 := hUw6.trans hU8
  have bD8 := (bD.up hU6).up hU8
  have bS8 := (bS.up hU6).up hU8
  have bT8 := bT.up hU8
  have bR8 := ((((bR.up hU3).up hU4).up hU5).up hU6).up hU8
  have hov8 := ((hov.up hU5).up hU6).up hU8
  have hR3 := (hU3.trans hU4).1.size
  have hU5s := hU5.1.size
  have hnums : w.heap.size ≤ R ∧ R ≠ D ∧ R ≠ S ∧ R ≠ T ∧ D ≠ S ∧ D ≠ T ∧ S ≠ T ∧ w.heap.size ≤ D ∧ w.heap.size ≤ S ∧ w.heap.size ≤ T := by refine ⟨?_, ?_, ?_, ?_, ?_, ?_, ?_, ?_, ?_, ?_⟩ <;> omega
  have hvk : ∀ k, sameBlock (.slice ps sent.length cs) k → w.heap.size ≤ k ∧ k ≠ R ∧ k ≠ D ∧ k ≠ S ∧ k ≠ T := fun k hk => by
    have h1 := hnb k hk
    have h2 := hov.block_lt k hk
    have h3 := hU3.1.size
    refine ⟨?_, ?_, ?_, ?_, ?_⟩ <;> omega
  have H8 := Lib.hid (And.intro hUw8 (And.intro bS8 (And.intro bT8 (And.intro bR8 (And.intro hov8 (And.intro hnums hvk))))))
  have HB := Lib.hid hbd
  clear hU3 hU4 hU5 hU6 hU8 hUw5 hUw6 hUw8 bS8 bT8 bR8 hov8 hov hnb hnums hvk HDue hL5 bD bS bT bR bM bM3 hbd hR3 hU5s hD hS hT hR hsz5 hsz6 hT5
  go_upto_if 38 with fail
  go_cut [] from 39 to 39 (fun wx => ∃ ah : Option Nat, (ah = none ∨ ah = some T) ∧ (es = [] → ah ≠ none) ∧ Hid (Chg (· = D) W8 wx) ∧ Hid (Blk wx D (Ent.list ⟨m, f, .slice ps sent.length cs, sent, ah⟩)))
  case first =>
    have hfD : ∀ j, W8.frozen? ⟨D, j, none⟩ = false := fun j => new_free w (.map #[] 0) H8.out.1 j _ H8.out.2.2.2.2.2.1.2.2.2.2.2.2.2.1
    have rD := bD8.get
    have c1 : Chg (· = D) W8 (W8.setCell ⟨D, 9, none⟩ (.pointer (some ⟨T, 0, none⟩))) := Chg.setCell (S := (· = D)) (p := ⟨D, 9, none⟩) (Chg.refl _ _) (Or.inl rfl) _
    have b1 := bD8.set 9 (.pointer (some ⟨T, 0, none⟩)) (by simp)
    have HD := Lib.hid (And.intro c1 (And.intro b1 bD8))
    clear c1 b1 bD8
    cases bd
    · go_wp2
      go_meet
      case rel => exact ⟨none, Or.inl rfl, (fun h0 => by have := HB.out h0; cases this), Lib.hid (Chg.refl _ _), Lib.hid HD.out.2.2⟩
    · go_wp2
      go_meet
      case rel => exact ⟨some T, Or.inr rfl, fun _ => by simp, Lib.hid HD.out.1, Lib.hid HD.out.2.1⟩
  case rest =>
    obtain ⟨ah, hah, hah0, hchD, bDc⟩ := hcut
    obtain ⟨hw8, bS8, bT8, bR8, hov8, hnums, hvk⟩ := H8.out
    obtain ⟨n1, n2, n3, n4, n5, n6, n7, n8, n9, n10⟩ := hnums
    have hLw := H.out.1
    have hflt : ∀ k, foot a V E es k → k < w.heap.size := hLw.r.foot_lt
    have hchw : Chg (· = D) w wc := (Chg.of_up hw8).trans hchD.out (fun _ _ h => h)
    have hUc : Up w wc := hchw.to_up fun k hk e => by omega
    have hLc := hLw.up hUc
    have bSc := bS8.chg hchD.out (fun e => n5 e.symm)
    have bTc := bT8.chg hchD.out (fun e => n6 e.symm)
    have bRc := bR8.chg hchD.out n2
    have hovc := hov8.chg hchD.out (fun k hk e => (hvk k hk).2.2.1 e)
    have hDt : ¬ turns a V D := fun e => by have := hflt D (foot_iff.2 (.inl e)); omega
    have hSt : ¬ turns a V S := fun e => by have := hflt S (foot_iff.2 (.inl e)); omega
    obtain ⟨pl, cl, hlv⟩ := hLc.r.lvs
    have hl16 := hLc.r.l
    rw [hlv] at hl16
    have H9 := Lib.hid (And.intro hUc (And.intro hLc (And.intro bSc (And.intro bTc (And.intro bRc (And.intro hovc hvk))))))
    have HA := Lib.hid (And.intro hah (And.intro hah0 hlv))
    have HLT := Lib.hid hflt
    have HT := Lib.hid (And.intro hDt hSt)
    clear hw8 bS8 bT8 bR8 hov8 hvk hLw hflt hchw hUc hLc bTc bRc hovc hah hah0 hlv hchD H8
    go_upto_region 10 with (fail)
    have kA := lift hl16
    have kD := bDc.out.lift
    have cD := fun W (hW : Chg (turns a V) wc.drew W) => ((bDc.out.up up_drew).chg hW hDt).get
    have cS := fun W (hW : Chg (turns a V) wc.drew W) => ((bSc.up up_drew).chg hW hSt).get
    refine region_two (turns a V) [0, 1, 2, 10, 11, 12, 13] [0, 1, 2, 3, 4, 5, 6, 7, 10, 11, 12, 13] [8] 9 [14, 15, 16, 17, 18, 19, 20, 21, 22] (by kernel_rfl) (by kernel_rfl) ?_
    simp only [getOps, List.getElem?_cons_zero, List.getElem?_cons_succ]
    repeat (first | (apply wpUp2_step rfl rfl; (focus (intro W hU; go_simp; exact ⟨rfl, Up.refl _⟩))) | (apply wpUp2_read rfl; (focus (intro W hU; go_simp; rfl))); go_simp)
    refine wpUp2_nil fun W6 hW6 => ?_
    clear kA kD cD cS
    have hU6 : Up wc W6 := up_drew.trans hW6
    refine wpNew_step rfl fun W7 hW7 K hK => ?_
    go_simp
    refine ⟨alloc_up _ _ _, hK _ _ ?_⟩
    clear hK K
    refine wpNew_nil fun W8 hW8 => ?_
    intro W9 hW9
    have bX := (Blk.alloc W7 (Ent.list ⟨m, f, .slice ps sent.length cs, sent, ah⟩) 76).up (hW8.trans hW9)
    have hU9 : Up wc W9 := (((hU6.trans hW7).trans (alloc_up _ _ _)).trans hW8).trans hW9
    obtain ⟨i0d, hi0, hz0, hz1, hz2⟩ := info_parts infoDone
    have hL9 := H9.out.2.1.up hU9
    have hsrc := srcBlk bX
    have hlv := HA.out.2.2
    have hrow := hL9.r.row
    rw [hlv] at hrow
    have hone : ∀ u ∈ Ent.list ⟨m, f, .slice ps sent.length cs, sent, ah⟩, u.oneCell' = true := by simp [Value.oneCell']
    have hn40 := HS.out.2.2.2
    refine wpTailS_append rfl (.tmp 46) (.tmp 48) 60 rfl 76 i0d _ 10 96 Tryz.underlying60 hi0 hz0 hz1 hz2 rfl (by decide) (.slice pl es.length cl) es.length _ rfl hrow (fun k hk => Or.inr (by rw [hlv]; exact hk)) _ 1 _ rfl (by simp) hsrc hone (by unfold maxLen; omega) (by omega) ?_
    intro v' W10 hown10 hchg10 hnew10
    obtain ⟨p', c', rfl⟩ := hown10.form
    have hb9 := hL9.b
    rw [HS.out.1] at hb9
    have hna : ¬ sameBlock (.slice pl es.length cl) a := by rw [← hlv]; exact hL9.ap
    have bA10 := hb9.chg hchg10 hna
    have hfz10 : ∀ j, W10.frozen? ⟨a, j, none⟩ = false := fun j => (hchg10.marks _).trans (hL9.fz j)
    have hsz9 := hU9.1.size
    have H10 := Lib.hid (And.intro hU9 (And.intro hL9 (And.intro hown10 (And.intro hchg10 hnew10))))
    have HX := Lib.hid (And.intro bA10 hfz10)
    have rA := bA10.get
    have rF := hfz10 16
    have c1 : Chg (turns a V) W10 (W10.setCell ⟨a, 16, none⟩ (.slice p' (es.length + 1) c')) := Chg.setCell (S := turns a V) (p := ⟨a, 16, none⟩) (Chg.refl _ _) (Or.inl (Or.inl rfl)) _
    have HC1 := Lib.hid c1
    clear hb9 hna bA10 hfz10 hown10 hchg10 hnew10 hrow hsrc bX hi0 hz0 hz1 hz2 hlv hL9 c1 hone
    go_simp
    refine wpTailS_step rfl fun K hK => ?_
    go_simp
    refine ⟨Chg.refl _ _, hK _ _ ?_⟩
    clear hK K
    refine wpTailS_step rfl fun K hK => ?_
    go_simp
    refine ⟨Chg.refl _ _, hK _ _ ?_⟩
    clear hK K
    refine wpTailS_step rfl fun K hK => ?_
    go_simp
    refine ⟨HC1.out, hK _ _ ?_⟩
    clear hK K
    have bA11 := HX.out.1.set 16 (.slice p' (es.length + 1) c') (by simp)
    have hfz11 : ∀ j, (W10.setCell ⟨a, 16, none⟩ (.slice p' (es.length + 1) c')).frozen? ⟨a, j, none⟩ = false := fun j => (HC1.out.marks _).trans (HX.out.2 j)
    have c11 : Chg (· = a) W10 (W10.setCell ⟨a, 16, none⟩ (.slice p' (es.length + 1) c')) := Chg.setCell (S := (· = a)) (p := ⟨a, 16, none⟩) (Chg.refl _ _) (Or.inl rfl) _
    clear rA rF HC1
    generalize (W10.setCell ⟨a, 16, none⟩ (.slice p' (es.length + 1) c')) = W11 at *
    refine wpTailS_step rfl fun K hK => ?_
    go_simp
    refine ⟨Chg.refl _ _, hK _ _ ?_⟩
    clear hK K
    refine wpTailS_step rfl fun K hK => ?_
    go_simp
    refine ⟨Chg.refl _ _, hK _ _ ?_⟩
    clear hK K
    have hone2 : ∀ u ∈ s'.list, u.oneCell' = true := by simp [Value.oneCell']
    have bA12 := Blk.sets s'.list 5 bA11 (by simp)
    have c12 : Chg (· = a) W11 (W11.setCells a 5 s'.list) := Chg.setCells (S := (· = a)) (Or.inl rfl) s'.list 5 (Chg.refl _ W11)
    refine wpTailS_store rfl 34 _ _ rfl a 5 s'.list rfl rfl (bA11.thereAt hfz11 (by simp)) (by kernel_rfl) hone2 (Or.inl rfl) ?_
    have hfz12 : ∀ j, (W11.setCells a 5 s'.list).frozen? ⟨a, j, none⟩ = false := fun j => (c12.marks _).trans (hfz11 j)
    generalize (W11.setCells a 5 s'.list) = W12 at *
    go_simp
    refine wpTailS_step rfl fun K hK => ?_
    go_simp
    refine ⟨Chg.refl _ _, hK _ _ ?_⟩
    clear hK K
    refine wpTailS_step rfl fun K hK => ?_
    go_simp
    refine ⟨Chg.refl _ _, hK _ _ ?_⟩
    clear hK K
    simp only [setL, logList, List.set_cons_succ, List.set_cons_zero] at bA12
    have rA := bA12.get
    have rF := hfz12 17
    have c13 : Chg (· = a) W12 (W12.setCell ⟨a, 17, none⟩ (.bool (f != 0))) := Chg.setCell (S := (· = a)) (p := ⟨a, 17, none⟩) (Chg.refl _ _) (Or.inl rfl) _
    have HC13 := Lib.hid (c13.mono (T := turns a V) (fun _ _ e => Or.inl e))
    have bA13 := bA12.set 17 (.bool (f != 0)) (by simp)
    simp only [List.set_cons_succ, List.set_cons_zero] at bA13
    have HB13 := Lib.hid (And.intro bA13 ((c11.trans c12 (fun _ _ e => e)).trans c13 (fun _ _ e => e)))
    clear bA13 c13 c12 c11 bA12 bA11 hfz11 hfz12 hone2
    refine wpTailS_step rfl fun K hK => ?_
    go_simp
    refine ⟨HC13.out, hK _ _ ?_⟩
    clear hK K
    refine wpTailS_nil ?_
    clear rA rF HC13
    generalize (W12.setCell ⟨a, 17, none⟩ (.bool (f != 0))) = W13 at *
    have hcx : Chg (turns a V) wc W13 := ((Chg.of_up H10.out.1).trans (H10.out.2.2.2.1.mono (T := turns a V) (fun _ _ e => Or.inr (by rw [HA.out.2.2]; exact e))) (fun _ _ e => e)).trans HB13.out.2 (fun _ _ e => Or.inl e)
    have hturn : ∀ k, w.heap.size ≤ k → ¬ turns a V k := fun k hk e => by have := HLT.out k (foot_iff.2 (.inl e)); omega
    have bD13 := bDc.out.chg hcx HT.out.1
    have bT13 := H9.out.2.2.2.1.chg hcx (hturn T n10)
    have bR13 := H9.out.2.2.2.2.1.chg hcx (hturn R n1)
    have hov13 := H9.out.2.2.2.2.2.1.chg hcx (fun k hk => hturn k (H9.out.2.2.2.2.2.2 k hk).1)
    have rD := bD13.get
    have rT := bT13.get
    have hs8 : sent.length ≤ 8 := by rw [HV.out.2.2.2, ← HV.out.2.1]; exact vmRun_o8 HS.out.2.2.1 H.out.2.2.1 HS.out.2.1
    have hahv : (Value.pointer (ah.map fun b => (⟨b, 0, none⟩ : Addr))).oneCell' = true := rfl
    have HE := Lib.hid (entry_any m f (.slice ps sent.length cs) sent (.pointer (ah.map fun b => (⟨b, 0, none⟩ : Addr))) hahv s W13 hov13 hs8)
    have H13 := Lib.hid (And.intro hcx (And.intro hturn (And.intro bR13 hov13)))
    clear hcx hturn bD13 bT13 bR13 hov13 hs8 hahv
    go_wp2_with fail
    refine HE.out.mono ?_
    rintro e W14 ⟨hU14, v14, rfl, _, hnb14⟩
    clear rD rT HE
    have bR14 := H13.out.2.2.1.up hU14
    have hF14 : ∀ j, W14.frozen? ⟨R, j, none⟩ = false := fun j => (hU14.2 _).trans ((H13.out.1.marks _).trans (new_free w (.map #[] 0) H9.out.1 j _ n1))
    have hth : W14.there R 0 19 := bR14.there hF14 (by simp)
    obtain ⟨p14, c14, rfl⟩ : ∃ p14 c14, v14 = .slice p14 sent.length c14 := by rename_i h; exact h.form
    have bR15 := Blk.sets (entList m s f (.slice p14 sent.length c14)) 0 bR14 (by simp)
    rw [setL_all (by simp)] at bR15
    have c15 : Chg (· = R) W14 (W14.setCells R 0 (entList m s f (.slice p14 sent.length c14))) := Chg.setCells (S := (· = R)) (Or.inl rfl) _ 0 (Chg.refl _ W14)
    have H15 := Lib.hid (And.intro bR15 c15)
    clear bR15 c15 bR14 hF14
    dsimp only
    go_step
    go_simp
    refine wpList_store_mid rfl _ _ _ rfl R 0 (entList m s f (.slice p14 sent.length c14)).toArray rfl rfl hth infoEnt (by simp [Value.oneCell']) ?_
    simp only [List.toList_toArray]
    generalize (W14.setCells R 0 (entList m s f (.slice p14 sent.length c14))) = W15 at *
    go_wp2
    have hd := did_log (V := V) (W9 := W9) (W10 := W10) (W' := W13) (v' := .slice p' (es.length + 1) c') (x := ⟨m, f, .slice ps sent.length cs, sent, ah⟩) H.out.1 HS.out.2.2.2 H.out.2.1 HS.out.1 H.out.2.2.1 (H9.out.1.trans H10.out.1) H10.out.2.2.1
      (by rw [HA.out.2.2]; exact H10.out.2.2.2.1) (by rw [HA.out.2.2]; exact H10.out.2.2.2.2) HB13.out.2 (by rw [HV.out.2.2.1]; exact HB13.out.1) (H9.out.2.2.2.2.2.1.up H10.out.1) (fun k hk => (H9.out.2.2.2.2.2.2 k hk).1)
      (fun b hb => by
        rcases HA.out.1 with h0 | h0
        · simp only [h0] at hb; cases hb
        · simp only [h0] at hb; cases hb; exact ⟨n10, H9.out.2.2.2.1.up H10.out.1⟩) HA.out.2.1 HV.out.1.symm (by rw [HV.out.2.1]; exact HV.out.2.2.2)
    obtain ⟨hd1, hd2, hd3, hd4⟩ := hd
    have hRlt : R < W9.heap.size := (H9.out.2.2.2.2.1.up H10.out.1).lt (by simp)
    have hc15 : Chg (· = R) W13 W15 := (Chg.of_up hU14).trans H15.out.2 (fun _ _ e => e)
    have hRf : ¬ foot a { V with lv := .slice p' (es.length + 1) c' } E (es ++ [⟨m, f, .slice ps sent.length cs, sent, ah⟩]) R := by
      rintro (hk | hk | hk | hk | hk | ⟨e, hm', hk⟩)
      · exact H13.out.2.1 R n1 (.inl hk)
      · rcases H10.out.2.2.2.2 R hk with h1 | h1
        · exact H13.out.2.1 R n1 (.inr (by rw [HA.out.2.2]; exact h1))
        · omega
      · have := HLT.out R (.inr (.inr (.inl hk))); omega
      · have := HLT.out R (.inr (.inr (.inr (.inl hk)))); omega
      · have := HLT.out R (.inr (.inr (.inr (.inr (.inl hk))))); omega
      · rcases List.mem_append.1 hm' with h1 | h1
        · have := HLT.out R (.inr (.inr (.inr (.inr (.inr ⟨e, h1, hk⟩))))); omega
        · have : e = ⟨m, f, .slice ps sent.length cs, sent, ah⟩ := by simpa using h1
          subst this
          rcases hk with hk | hk
          · exact (H9.out.2.2.2.2.2.2 R hk).2.1 rfl
          · rcases HA.out.1 with h0 | h0
            · simp only [h0] at hk; cases hk
            · simp only [h0] at hk; cases hk; exact n4 rfl
    have hcf : Chg (turns a V) w W15 := ((Chg.of_up H9.out.1).trans H13.out.1 (fun _ _ e => e)).trans hc15 (fun k hk e => by omega)
    exact bodyPost_ret (w := W15) (results_blk_tmp rfl rfl H15.out.1 Tryz.underlying51 rfl infoEnt) rfl
      ⟨⟨_, ⟨m, s, f, p14, sent.length, c14, rfl⟩, rfl⟩, ⟨⟨_, _, rfl, hd1.chg hc15 (fun k e => by subst e; exact hRf), hd2, hd3, hd4⟩, hcf⟩⟩
end Go.Proofs.YtalmjdlcogdpmaaGreatDoor

namespace Go.Proofs.YtalmjdlcogdpmaaGreatDoor
open Go.RowKit
attribute [local go_sem] upUpon_value upUpon_enter upUpon_skip upUpon_row ucUpon_value ucUpon_skip ucUpon_enter ucUpon_row

def swpN (L : List Msg) (a b : Nat) : Nat → List Msg
  | 0 => L
  | k + 1 => swp (swpN L a b k) (a + k) (b + k)
theorem swpN_length (L : List Msg) (a b k : Nat) : (swpN L a b k).length = L.length := by
  induction k with
  | zero => rfl
  | succ k ih => rw [swpN, swp_length, ih]

theorem swpN_get {L : List Msg} {a b k : Nat} (h : a + k ≤ b) (hb : b + k ≤ L.length) (q : Nat) : (swpN L a b k)[q]? = if a ≤ q ∧ q < a + k then L[q + (b - a)]? else if b ≤ q ∧ q < b + k then L[q - (b - a)]? else L[q]? := by
  induction k generalizing q with
  | zero => rw [if_neg (by omega), if_neg (by omega)]; rfl
  | succ k ih =>
    have ih := ih (by omega) (by omega)
    rw [swpN, swp_get (by rw [swpN_length]; omega) (by rw [swpN_length]; omega)]
    simp only [ih]
    repeat' split
    all_goals first | (exfalso; omega) | rfl | (congr 1; omega)
theorem swpN_mov {L : List Msg} {a b k c d : Nat} (h1 : c ≤ a) (h2 : a + k ≤ d) (h3 : c ≤ b) (h4 : b + k ≤ d) (hd : d ≤ L.length) : Mov c d L (swpN L a b k) := by
  induction k with
  | zero => exact Mov.refl _ _ _
  | succ k ih => exact (ih (by omega) (by omega)).trans (swp_mov (by rw [swpN_length]; omega) (by rw [swpN_length]; omega) (by omega) (by omega) (by omega) (by omega))

/-- What stands at k when lo .. mid and mid .. hi have changed places. -/
def rotG (M : List Msg) (lo mid hi k : Nat) : Option Msg :=
  if lo ≤ k ∧ k < lo + (hi - mid) then M[k + (mid - lo)]? else if lo + (hi - mid) ≤ k ∧ k < hi then M[k - (hi - mid)]? else M[k]?
theorem rotG_left {M : List Msg} {m i j : Nat} (hij : j < i) (him : i ≤ m) (hj : m + j ≤ M.length) (k : Nat) : rotG (swpN M (m - i) m j) (m - i + j) m (m + j) k = rotG M (m - i) m (m + j) k := by
  unfold rotG
  simp only [swpN_get (L := M) (a := m - i) (b := m) (k := j) (by omega) hj]
  repeat' split
  all_goals first | (exfalso; omega) | rfl | (congr 1; omega)
theorem rotG_right {M : List Msg} {m i j : Nat} (hij : i < j) (him : i ≤ m) (hj : m + j ≤ M.length) (k : Nat) : rotG (swpN M (m - i) (m + j - i) i) (m - i) m (m + j - i) k = rotG M (m - i) m (m + j) k := by
  unfold rotG
  simp only [swpN_get (L := M) (a := m - i) (b := m + j - i) (k := i) (by omega) (by omega)]
  repeat' split
  all_goals first | (exfalso; omega) | rfl | (congr 1; omega)
theorem rotG_last {M : List Msg} {m i : Nat} (him : i ≤ m) (hj : m + i ≤ M.length) (k : Nat) : (swpN M (m - i) m i)[k]? = rotG M (m - i) m (m + i) k := by
  unfold rotG
  rw [swpN_get (L := M) (a := m - i) (b := m) (k := i) (by omega) hj]
  repeat' split
  all_goals first | (exfalso; omega) | rfl | (congr 1; omega)

set_option maxRecDepth 100000 in
set_option maxHeartbeats 2000000 in
theorem swapRange_any (g cap a b k : Nat) (L : List Msg) (cv : Value) (w : World) (h : RowM w (slc g L.length cap) L) (ha : a + k ≤ L.length) (hb : b + k ≤ L.length) (hn : L.length ≤ 1000000) :
    Calls Tryz.prog 93 #[slc g L.length cap, .int .i64 a, .int .i64 b, .int .i64 k, cv] w fun e w' => e = .returned (.tuple #[]) ∧ Chg (· = g) w w' ∧ RowM w' (slc g L.length cap) (swpN L a b k) := by
  have H := Lib.hid h
  obtain ⟨N, hN⟩ : ∃ N, L.length = N := ⟨_, rfl⟩
  have HN := Lib.hid hN
  rw [hN] at ha hb hn ⊢
  clear h hN
  go_enter Tryz.func93, Tryz.ntmps93
  go_wp2_with fail
  go_loopw [10] (fun v wr => ∃ i : Nat, i ≤ k ∧ v = .int .i64 i ∧ Hid (Chg (· = g) w wr) ∧ Hid (RowM wr (slc g N cap) (swpN L a b i))) (fun v _ => k - (intOf v).toNat)
  case atStart => exact ⟨0, Nat.zero_le _, rfl, Lib.hid (Chg.refl _ _), Lib.hid (by have := H.out; rw [HN.out] at this; exact this)⟩
  case round =>
    obtain ⟨i, hi, rfl, hc, hr⟩ := hrel
    by_cases hlt : i < k
    · obtain ⟨M, hM⟩ : ∃ M, swpN L a b i = M := ⟨_, rfl⟩
      have hl : M.length = N := by rw [← hM, swpN_length]; exact HN.out
      have hr' := hr.out
      rw [hM] at hr'
      obtain ⟨p, hp⟩ : ∃ p, p = a + i := ⟨_, rfl⟩
      obtain ⟨q, hq⟩ : ∃ q, q = b + i := ⟨_, rfl⟩
      obtain ⟨x, hx⟩ : ∃ x, M[p]? = some x := ⟨M[p]'(by omega), List.getElem?_eq_getElem _⟩
      obtain ⟨y, hy⟩ : ∃ y, M[q]? = some y := ⟨M[q]'(by omega), List.getElem?_eq_getElem _⟩
      have kx := (hr'.blkM hx).lift
      have kx0 := liftC (hr'.blkM hx).zero
      have ky := (hr'.blkM hy).lift
      have ky0 := liftC (hr'.blkM hy).zero
      have hi1 : p < N := by omega
      have hi2 : q < N := by omega
      have w_1 : IntKind.i64.wrap ((a : Int) + i) = (p : Int) := by rw [IntWalk.i64_in _ (by omega)]; omega
      have w_2 : IntKind.i64.wrap ((b : Int) + i) = (q : Int) := by rw [IntWalk.i64_in _ (by omega)]; omega
      have HX := Lib.hid (And.intro hx (And.intro hy (And.intro hl (And.intro hM (And.intro hp hq)))))
      have HR := Lib.hid hr'
      clear hx hy hl hM hr' hr hp hq
      go_upto_region 3 with (fail)
      refine region_upL [4, 5, 6, 7] [0, 1, 2, 3, 4, 5, 6, 7, 8, 9, 10, 11, 12, 13, 14, 15, 16, 17, 18, 19, 20] [] 21 [22, 23] (by kernel_rfl) (by kernel_rfl) (fun d _ _ _ _ h => by cases d <;> exact h) ?_
      simp only [getOps, List.getElem?_cons_zero, List.getElem?_cons_succ]
      repeat (first | (apply wpUp_pure rfl; (focus (intro W; go_simp; rfl))) | (apply wpUp_step rfl rfl; (focus (intro W hU; go_simp; exact ⟨rfl, Up.refl _⟩))); go_simp)
      refine wpUp_nil fun W3 hW3 => ?_
      refine wpNew_nil fun W4 hW4 => ?_
      clear kx kx0 ky ky0 w_1 w_2
      have hM4 : M.length = N := HX.out.2.2.1
      refine wpList_storeM rfl _ _ rfl y p (HR.out.upM ((up_drew.trans hW3).trans hW4)) (by omega) rfl rfl fun W5 r5 c5 => ?_
      refine wpList_build rfl (by go_simp; rfl) ?_
      refine wpList_storeM rfl _ _ rfl x q r5 (by rw [List.length_set]; omega) rfl rfl fun W6 r6 c6 => ?_
      have H6 := Lib.hid (And.intro r6 ((Chg.of_up (S := (· = g)) ((up_drew.trans hW3).trans hW4)).trans (c5.trans c6 (fun _ _ e => e)) (fun _ _ e => e)))
      clear r5 c5 r6 c6 hM4
      go_wp2
      have hxp := HX.out
      refine ⟨⟨i + 1, by omega, by go_num, Lib.hid (hc.out.trans H6.out.2 (fun _ _ e => e)), Lib.hid ?_⟩, by simp [intOf]; omega⟩
      have h6 := H6.out.1
      rw [swpN, hxp.2.2.2.1, ← hxp.2.2.2.2.1, ← hxp.2.2.2.2.2, swp_eq hxp.1 hxp.2.1]
      exact h6
    · obtain rfl : i = k := by omega
      go_wp2
      go_end0
      exact ⟨rfl, hc.out, hr.out⟩

abbrev ordF : Value := .func (.func 23) #[] #[]
set_option maxRecDepth 100000 in
set_option maxHeartbeats 2000000 in
theorem insertion_any (g cap a b : Nat) (L : List Msg) (w : World) (h : RowM w (slc g L.length cap) L) (hab : a ≤ b) (hb : b ≤ L.length) (hn : L.length ≤ 1000000) :
    Calls Tryz.prog 67 #[slc g L.length cap, .int .i64 a, .int .i64 b, ordF] w fun e w' => e = .returned (.tuple #[]) ∧ Chg (· = g) w w' ∧ ∃ L', RowM w' (slc g L.length cap) L' ∧ Mov a b L L' ∧ Srt L' a b := by
  have H := Lib.hid h
  obtain ⟨N, hN⟩ : ∃ N, L.length = N := ⟨_, rfl⟩
  have HN := Lib.hid hN
  rw [hN] at hb hn ⊢
  clear h hN
  go_enter Tryz.func67, Tryz.ntmps67
  go_wp2_with fail
  go_loopw [8] (fun v wr => ∃ i : Nat, ∃ M : List Msg, a + 1 ≤ i ∧ (i ≤ b ∨ i = a + 1) ∧ v = .int .i64 i ∧ Hid (Chg (· = g) w wr) ∧ Hid (RowM wr (slc g N cap) M) ∧ Hid (Mov a b L M) ∧ Hid (Srt M a i)) (fun v _ => b - (intOf v).toNat)
  case atStart => exact ⟨a + 1, L, Nat.le_refl _, .inr rfl, by go_num, Lib.hid (Chg.refl _ _), Lib.hid (by have := H.out; rw [HN.out] at this; exact this), Lib.hid (Mov.refl _ _ _), Lib.hid (fun p q x y h1 h2 h3 => by omega)⟩
  case round =>
    obtain ⟨i, M, hi1, hi2, rfl, hc, hr, hm, hs⟩ := hrel
    by_cases hlt : i < b
    · go_wp2_with fail
      obtain ⟨wo, rfl⟩ : ∃ wo : World, wo = wr := ⟨_, rfl⟩
      go_loopw [9] (fun v wr => ∃ j : Nat, ∃ M : List Msg, a ≤ j ∧ j ≤ i ∧ v = .int .i64 j ∧ Hid (Chg (· = g) w wr) ∧ Hid (RowM wr (slc g N cap) M) ∧ Hid (Mov a b L M) ∧ Hid (InsI M a i j)) (fun v _ => (intOf v).toNat)
      case atStart => exact ⟨i, M, by omega, Nat.le_refl _, rfl, hc, hr, hm, Lib.hid (InsI.start hs.out)⟩
      case round =>
        obtain ⟨j, M, hj1, hj2, rfl, hc, hr, hm, hs⟩ := hrel
        have hl : M.length = N := by rw [hm.out.len]; exact HN.out
        go_upto_region 4 with (fail)
        by_cases hja : a < j
        · obtain ⟨q, hq⟩ : ∃ q, q = j - 1 := ⟨_, rfl⟩
          obtain ⟨x, hx⟩ : ∃ x, M[j]? = some x := ⟨M[j]'(by omega), List.getElem?_eq_getElem _⟩
          obtain ⟨y, hy⟩ : ∃ y, M[q]? = some y := ⟨M[q]'(by omega), List.getElem?_eq_getElem _⟩
          have kx := (hr.out.blkM hx).lift
          have kx0 := liftC (hr.out.blkM hx).zero
          have ky := (hr.out.blkM hy).lift
          have ky0 := liftC (hr.out.blkM hy).zero
          have hi3 : j < N := by omega
          have hi4 : q < N := by omega
          have w_1 : IntKind.i64.wrap ((j : Int) - 1) = (q : Int) := by rw [IntWalk.i64_in _ (by omega)]; omega
          have HX := Lib.hid (And.intro hx (And.intro hy (And.intro hl hq)))
          clear hx hy hl hq
          refine region_upL0 [0, 1, 2, 3, 4, 5, 6, 7, 8, 9, 10, 11, 12, 13, 14, 15] [] 16 [] (by kernel_rfl) (by kernel_rfl) ?_
          simp only [getOps, List.getElem?_cons_zero, List.getElem?_cons_succ]
          repeat (first | (apply wpUp_step rfl rfl; (focus (intro W hU; go_simp; exact ⟨rfl, Up.refl _⟩))) | (apply wpUp_yes rfl rfl; (focus (intro W hU; go_simp; first | exact ⟨rfl, Up.refl _⟩ | exact order_any x y W))); go_simp)
          refine wpUp_nil fun W3 hW3 => ?_
          refine wpNew_nil fun W4 hW4 => ?_
          clear kx kx0 ky ky0 w_1
          have hr4 := hr.out.upM ((up_drew.trans hW3).trans hW4)
          have hc4 := Lib.hid (hc.out.up ((up_drew.trans hW3).trans hW4))
          rw [ordv_neg]
          rcases hbf : befB x y with _ | _
          · have HB := Lib.hid hbf
            have HR := Lib.hid hr4
            clear hbf hr4
            go_wp2
            exact ⟨⟨i + 1, M, by omega, by omega, by go_num, hc4, HR, hm, Lib.hid (hs.out.stop (by omega) (by have := HX.out.2.2.1; omega) (fun _ x' y' h1 h2 => by
              rw [HX.out.1] at h1
              rw [← HX.out.2.2.2, HX.out.2.1] at h2
              cases h1; cases h2
              exact HB.out))⟩, by simp [intOf]; omega⟩
          · have HB := Lib.hid hbf
            clear hbf
            have HR := Lib.hid hr4
            clear hr4
            go_upto_region 6 with (fail)
            have kx := (HR.out.blkM HX.out.1).lift
            have kx0 := liftC (HR.out.blkM HX.out.1).zero
            have ky := (HR.out.blkM HX.out.2.1).lift
            have ky0 := liftC (HR.out.blkM HX.out.2.1).zero
            have w_1 : IntKind.i64.wrap ((j : Int) - 1) = (q : Int) := by have := HX.out.2.2.2; rw [IntWalk.i64_in _ (by omega)]; omega
            refine region_upL [2, 3, 4] [0, 1, 2, 3, 4, 5, 6, 7, 8, 9, 10, 11, 12, 13, 14] [] 15 [16, 17] (by kernel_rfl) (by kernel_rfl) (fun d _ _ _ _ h => by cases d <;> exact h) ?_
            simp only [getOps, List.getElem?_cons_zero, List.getElem?_cons_succ]
            repeat (first | (apply wpUp_pure rfl; (focus (intro W; go_simp; rfl))) | (apply wpUp_step rfl rfl; (focus (intro W hU; go_simp; exact ⟨rfl, Up.refl _⟩))); go_simp)
            refine wpUp_nil fun W5 hW5 => ?_
            refine wpNew_nil fun W6 hW6 => ?_
            clear kx kx0 ky ky0
            have hl := HX.out.2.2.1
            refine wpList_storeM rfl _ _ rfl y j (HR.out.upM ((up_drew.trans hW5).trans hW6)) (by omega) rfl rfl fun W7 r7 c7 => ?_
            refine wpList_build rfl (by go_simp; rfl) ?_
            refine wpList_storeM rfl _ _ rfl x q r7 (by rw [List.length_set]; omega) rfl rfl fun W8 r8 c8 => ?_
            have H8 := Lib.hid (And.intro r8 (((hc4.out.up ((up_drew.trans hW5).trans hW6)).trans c7 (fun _ _ e => e)).trans c8 (fun _ _ e => e)))
            clear r7 c7 r8 c8 hl
            go_wp2
            have hxp := HX.out
            have h8 := H8.out.1
            rw [← swp_eq hxp.1 hxp.2.1, hxp.2.2.2] at h8
            exact ⟨⟨j - 1, swp M j (j - 1), by omega, by omega, by rw [hxp.2.2.2], Lib.hid H8.out.2, Lib.hid h8, Lib.hid (hm.out.trans (swp_mov (by omega) (by omega) (by omega) (by omega) (by omega) (by omega))), Lib.hid (hs.out.step hja hj2 (by omega) hxp.1 (by rw [← hxp.2.2.2]; exact hxp.2.1) HB.out)⟩, by rw [hxp.2.2.2]; simp [intOf]; omega⟩
        · obtain rfl : j = a := by omega
          have hd : decide ((j : Int) > (j : Int)) = false := decide_eq_false (by omega)
          refine region_upL0 [0, 1, 2, 3, 4, 5, 6, 7, 8, 9, 10, 11, 12, 13, 14, 15] [] 16 [] (by kernel_rfl) (by kernel_rfl) ?_
          simp only [getOps, List.getElem?_cons_zero, List.getElem?_cons_succ]
          repeat (first | (apply wpUp_step rfl rfl; (focus (intro W hU; go_simp; exact ⟨rfl, Up.refl _⟩))) | (apply wpUp_no rfl); go_simp)
          refine wpUp_nil fun W3 hW3 => ?_
          refine wpNew_nil fun W4 hW4 => ?_
          have hr4 := Lib.hid (hr.out.upM ((up_drew.trans hW3).trans hW4))
          have hc4 := Lib.hid (hc.out.up ((up_drew.trans hW3).trans hW4))
          have HL := Lib.hid hl
          clear hl hd
          go_wp2
          exact ⟨⟨i + 1, M, by omega, by omega, by go_num, hc4, hr4, hm, Lib.hid (hs.out.stop (by omega) (by have := HL.out; omega) (fun h => by omega))⟩, by simp [intOf]; omega⟩
    · go_wp2
      go_end0
      exact ⟨rfl, hc.out, M, hr.out, hm.out, fun p q x y h1 h2 h3 => hs.out p q x y h1 h2 (by omega)⟩
end Go.Proofs.YtalmjdlcogdpmaaGreatDoor

namespace Go.Proofs.YtalmjdlcogdpmaaGreatDoor

theorem Srt.mono {L : List Msg} {a b c d : Nat} (h : Srt L a b) (h1 : a ≤ c) (h2 : d ≤ b) : Srt L c d := fun i j x y k1 k2 k3 => h i j x y (by omega) k2 (by omega)
theorem Srt.le {L : List Msg} {a b : Nat} (h : Srt L a b) {i j : Nat} {x y : Msg} (h1 : a ≤ i) (h2 : i ≤ j) (h3 : j < b) (hx : L[i]? = some x) (hy : L[j]? = some y) : befB y x = false := by
  rcases Nat.lt_or_ge i j with h4 | h4
  · exact h i j x y h1 h4 h3 hx hy
  · have : i = j := by omega
    subst this
    rw [hx] at hy
    cases hy
    exact befB_irrefl _
theorem Srt.of_eq {L M : List Msg} {a b : Nat} (h : Srt L a b) (he : ∀ k, a ≤ k → k < b → M[k]? = L[k]?) : Srt M a b := fun i j x y h1 h2 h3 hx hy =>
  h i j x y h1 h2 h3 (by rw [← he i h1 (by omega)]; exact hx) (by rw [← he j (by omega) h3]; exact hy)

/-! ### One element ahead of a run -/
/-- The first of a .. has gone to k. -/
def ShUp (L M : List Msg) (a k : Nat) : Prop := ∀ p, M[p]? = if a ≤ p ∧ p < k then L[p + 1]? else if p = k then L[a]? else L[p]?
theorem ShUp.start (L : List Msg) (a : Nat) : ShUp L L a a := fun p => by
  rw [if_neg (by omega)]
  by_cases h : p = a
  · rw [if_pos h, h]
  · rw [if_neg h]
theorem ShUp.step {L M : List Msg} {a k : Nat} (h : ShUp L M a k) (ha : a ≤ k) (hk : k + 1 < M.length) : ShUp L (swp M k (k + 1)) a (k + 1) := fun p => by
  rw [swp_get (by omega) hk]
  simp only [h _]
  repeat' split
  all_goals first | (exact absurd trivial ‹¬True›) | (exfalso; omega) | rfl | (congr 1; omega)
theorem ShUp.srt {L M : List Msg} {a i b : Nat} {x : Msg} (h : ShUp L M a (i - 1)) (hi : a < i) (hib : i ≤ b) (hs : Srt L (a + 1) b) (hx : L[a]? = some x)
    (h1 : ∀ p y, a + 1 ≤ p → p < i → L[p]? = some y → befB y x = true) (h2 : ∀ p y, i ≤ p → p < b → L[p]? = some y → befB y x = false) : Srt M a b := by
  intro p q u v k1 k2 k3 hu hv
  rw [h] at hu hv
  by_cases e1 : a ≤ p ∧ p < i - 1
  · rw [if_pos e1] at hu
    by_cases e2 : a ≤ q ∧ q < i - 1
    · rw [if_pos e2] at hv
      exact hs (p + 1) (q + 1) u v (by omega) (by omega) (by omega) hu hv
    · rw [if_neg e2] at hv
      by_cases e3 : q = i - 1
      · rw [if_pos e3, hx] at hv
        cases hv
        exact befB_asymm (h1 (p + 1) u (by omega) (by omega) hu)
      · rw [if_neg e3] at hv
        exact hs (p + 1) q u v (by omega) (by omega) k3 hu hv
  · rw [if_neg e1] at hu
    rw [if_neg (by omega), if_neg (by omega)] at hv
    by_cases e3 : p = i - 1
    · rw [if_pos e3, hx] at hu
      cases hu
      exact h2 q v (by omega) k3 hv
    · rw [if_neg e3] at hu
      exact hs p q u v (by omega) k2 k3 hu hv
/-- The last of .. m has gone to k. -/
def ShDn (L M : List Msg) (m k : Nat) : Prop := ∀ p, M[p]? = if k < p ∧ p ≤ m then L[p - 1]? else if p = k then L[m]? else L[p]?
theorem ShDn.start (L : List Msg) (m : Nat) : ShDn L L m m := fun p => by
  rw [if_neg (by omega)]
  by_cases h : p = m
  · rw [if_pos h, h]
  · rw [if_neg h]
theorem ShDn.step {L M : List Msg} {m k : Nat} (h : ShDn L M m k) (h0 : 0 < k) (hk : k ≤ m) (hm : m < M.length) : ShDn L (swp M k (k - 1)) m (k - 1) := fun p => by
  rw [swp_get (by omega) (by omega)]
  simp only [h _]
  repeat' split
  all_goals first | (exact absurd trivial ‹¬True›) | (exfalso; omega) | rfl | (congr 1; omega)
theorem ShDn.srt {L M : List Msg} {m i a : Nat} {x : Msg} (h : ShDn L M m i) (hai : a ≤ i) (hi : i ≤ m) (hs : Srt L a m) (hx : L[m]? = some x)
    (h1 : ∀ p y, a ≤ p → p < i → L[p]? = some y → befB x y = false) (h2 : ∀ p y, i ≤ p → p < m → L[p]? = some y → befB x y = true) : Srt M a (m + 1) := by
  intro p q u v k1 k2 k3 hu hv
  rw [h] at hu hv
  by_cases e1 : i < q ∧ q ≤ m
  · rw [if_pos e1] at hv
    by_cases e2 : i < p ∧ p ≤ m
    · rw [if_pos e2] at hu
      exact hs (p - 1) (q - 1) u v (by omega) (by omega) (by omega) hu hv
    · rw [if_neg e2] at hu
      by_cases e3 : p = i
      · rw [if_pos e3, hx] at hu
        cases hu
        exact befB_asymm (h2 (q - 1) v (by omega) (by omega) hv)
      · rw [if_neg e3] at hu
        exact hs p (q - 1) u v (by omega) (by omega) (by omega) hu hv
  · rw [if_neg e1] at hv
    rw [if_neg (by omega), if_neg (by omega)] at hu
    by_cases e3 : q = i
    · rw [if_pos e3, hx] at hv
      cases hv
      exact h1 p u (by omega) (by omega) hu
    · rw [if_neg e3] at hv
      exact hs p q u v (by omega) k2 (by omega) hu hv

/-! ### The split in the midst -/
/-- What the binary search for the split has shown. -/
structure Split (L : List Msg) (p lo hi c : Nat) : Prop where
  l : lo ≤ c
  h : c ≤ hi
structure SymAt (L : List Msg) (a m b lo hi s : Nat) : Prop where
  lo : ∀ c x y, lo ≤ c → c < s → L[c]? = some x → L[(a + b) / 2 + m - 1 - c]? = some y → befB y x = false
  hi : ∀ c x y, s ≤ c → c < hi → L[c]? = some x → L[(a + b) / 2 + m - 1 - c]? = some y → befB y x = true
/-- Where the search begins, and ends. -/
def symLo (a m b : Nat) : Nat := if (a + b) / 2 < m then (a + b) / 2 + m - b else a
def symHi (a m b : Nat) : Nat := if (a + b) / 2 < m then (a + b) / 2 else m
theorem sym_bounds {a m b : Nat} (h1 : a < m) (h2 : m < b) : a ≤ symLo a m b ∧ symLo a m b ≤ symHi a m b ∧ symHi a m b ≤ m ∧ symHi a m b ≤ (a + b) / 2 ∧ (a + b) / 2 + m ≤ symLo a m b + b ∧ (symLo a m b = a ∨ symLo a m b + b = (a + b) / 2 + m) ∧ (symHi a m b = (a + b) / 2 ∨ symHi a m b = m) := by
  unfold symLo symHi
  split <;> omega
theorem sym_halves {L M : List Msg} {a m b s : Nat} (h1 : a < m) (h2 : m < b) (hb : b ≤ L.length) (ha : Srt L a m) (hm : Srt L m b) (hs : SymAt L a m b (symLo a m b) (symHi a m b) s) (hl : symLo a m b ≤ s) (hh : s ≤ symHi a m b)
    (hM : ∀ k, M[k]? = rotG L s m ((a + b) / 2 + m - s) k) :
    Srt M a s ∧ Srt M s ((a + b) / 2) ∧ Srt M ((a + b) / 2) ((a + b) / 2 + m - s) ∧ Srt M ((a + b) / 2 + m - s) b ∧ ∀ i j x y, a ≤ i → i < (a + b) / 2 → (a + b) / 2 ≤ j → j < b → M[i]? = some x → M[j]? = some y → befB y x = false := by
  obtain ⟨b1, b2, b3, b4, b5, b6, b7⟩ := sym_bounds h1 h2
  obtain ⟨mid, hmid⟩ : ∃ mid, (a + b) / 2 = mid := ⟨_, rfl⟩
  have hmd : a < mid ∧ mid < b := by omega
  have hs1 := hs.lo
  have hs2 := hs.hi
  rw [hmid] at b4 b5 b6 b7 ⊢
  simp only [hmid] at hM hs1 hs2
  -- what stands where
  have f1 : ∀ k, k < s → M[k]? = L[k]? := fun k hk => by rw [hM]; unfold rotG; rw [if_neg (by omega), if_neg (by omega)]
  have f2 : ∀ k, s ≤ k → k < mid → M[k]? = L[k + (m - s)]? := fun k hk hk2 => by rw [hM]; unfold rotG; rw [if_pos (by omega)]
  have f3 : ∀ k, mid ≤ k → k < mid + m - s → M[k]? = L[k - (mid - s)]? := fun k hk hk2 => by
    rw [hM]; unfold rotG; rw [if_neg (by omega), if_pos (by omega)]; congr 1; omega
  have f4 : ∀ k, mid + m - s ≤ k → M[k]? = L[k]? := fun k hk => by rw [hM]; unfold rotG; rw [if_neg (by omega), if_neg (by omega)]
  refine ⟨fun i j x y k1 k2 k3 hx hy => ?_, fun i j x y k1 k2 k3 hx hy => ?_, fun i j x y k1 k2 k3 hx hy => ?_, fun i j x y k1 k2 k3 hx hy => ?_, fun i j x y k1 k2 k3 k4 hx hy => ?_⟩
  · rw [f1 i (by omega)] at hx; rw [f1 j k3] at hy
    exact ha i j x y k1 k2 (by omega) hx hy
  · rw [f2 i k1 (by omega)] at hx; rw [f2 j (by omega) k3] at hy
    exact hm _ _ x y (by omega) (by omega) (by omega) hx hy
  · rw [f3 i k1 (by omega)] at hx; rw [f3 j (by omega) k3] at hy
    exact ha _ _ x y (by omega) (by omega) (by omega) hx hy
  · rw [f4 i k1] at hx; rw [f4 j (by omega)] at hy
    exact hm i j x y (by omega) k2 k3 hx hy
  · rcases Nat.lt_or_ge i s with e1 | e1
    · rw [f1 i e1] at hx
      rcases Nat.lt_or_ge j (mid + m - s) with e2 | e2
      · rw [f3 j k3 e2] at hy
        exact ha.le (by omega) (by omega) (by omega) hx hy
      · rw [f4 j e2] at hy
        -- the last of the head against the first of the tail
        obtain ⟨u, hu⟩ : ∃ u, L[s - 1]? = some u := ⟨L[s - 1]'(by omega), List.getElem?_eq_getElem _⟩
        obtain ⟨v, hv⟩ : ∃ v, L[mid + m - s]? = some v := ⟨L[mid + m - s]'(by omega), List.getElem?_eq_getElem _⟩
        have l1 := ha.le k1 (show i ≤ s - 1 by omega) (by omega) hx hu
        have l3 := hm.le (show m ≤ mid + m - s by omega) e2 k4 hv hy
        have l2 := hs1 (s - 1) u v (by omega) (by omega) hu (by rw [show mid + m - 1 - (s - 1) = mid + m - s by omega]; exact hv)
        exact nbef_trans (nbef_trans l1 l2) l3
    · rw [f2 i e1 k2] at hx
      rcases Nat.lt_or_ge j (mid + m - s) with e2 | e2
      · rw [f3 j k3 e2] at hy
        obtain ⟨u, hu⟩ : ∃ u, L[mid + m - s - 1]? = some u := ⟨L[mid + m - s - 1]'(by omega), List.getElem?_eq_getElem _⟩
        obtain ⟨v, hv⟩ : ∃ v, L[s]? = some v := ⟨L[s]'(by omega), List.getElem?_eq_getElem _⟩
        have l1 := hm.le (show m ≤ i + (m - s) by omega) (show i + (m - s) ≤ mid + m - s - 1 by omega) (by omega) hx hu
        have l3 := ha.le (show a ≤ s by omega) (show s ≤ j - (mid - s) by omega) (by omega) hv hy
        have l2 := hs2 s v u (Nat.le_refl _) (by omega) hv (by rw [show mid + m - 1 - s = mid + m - s - 1 by omega]; exact hu)
        exact nbef_trans (nbef_trans l1 (befB_asymm l2)) l3
      · rw [f4 j e2] at hy
        exact hm.le (by omega) (by omega) k4 hx hy
theorem sym_join {L M N : List Msg} {a mid b : Nat} (h1 : a ≤ mid) (h2 : mid ≤ b) (hc : ∀ i j x y, a ≤ i → i < mid → mid ≤ j → j < b → L[i]? = some x → L[j]? = some y → befB y x = false)
    (hM : Mov a mid L M) (sM : Srt M a mid) (hN : Mov mid b M N) (sN : Srt N mid b) : Srt N a b := by
  intro i j x y k1 k2 k3 hx hy
  rcases Nat.lt_or_ge j mid with e1 | e1
  · rw [hN.out i (by omega)] at hx
    rw [hN.out j (by omega)] at hy
    exact sM i j x y k1 k2 e1 hx hy
  · rcases Nat.lt_or_ge i mid with e2 | e2
    · rw [hN.out i (by omega)] at hx
      obtain ⟨p, p1, p2, p3⟩ := hM.in' i k1 e2
      obtain ⟨q, q1, q2, q3⟩ := hN.in' j e1 k3
      rw [p3] at hx
      rw [q3, hM.out q (by omega)] at hy
      exact hc p q x y p1 p2 q1 q2 hx hy
    · exact sN i j x y e2 k2 k3 hx hy
end Go.Proofs.YtalmjdlcogdpmaaGreatDoor

namespace Go.Proofs.YtalmjdlcogdpmaaGreatDoor
/-- Not behind: whatever stands there. -/
def leA (L : List Msg) (i j : Nat) : Prop := ∀ x y, L[i]? = some x → L[j]? = some y → befB y x = false
theorem leA.trans {L : List Msg} {i j k : Nat} (h : leA L i j) (hk : leA L j k) (hj : j < L.length) : leA L i k := fun x z hx hz =>
  nbef_trans (h x L[j] hx (List.getElem?_eq_getElem hj)) (hk L[j] z (List.getElem?_eq_getElem hj) hz)
theorem leA.of_lt {L : List Msg} {i j : Nat} {x y : Msg} (hx : L[i]? = some x) (hy : L[j]? = some y) (h : befB x y = true) : leA L i j := fun u v hu hv => by
  rw [hx] at hu; rw [hy] at hv; cases hu; cases hv; exact befB_asymm h
theorem leA.of_no {L : List Msg} {i j : Nat} {x y : Msg} (hx : L[i]? = some x) (hy : L[j]? = some y) (h : befB y x = false) : leA L i j := fun u v hu hv => by
  rw [hx] at hu; rw [hy] at hv; cases hu; cases hv; exact h
theorem leA.congr {L M : List Msg} {i j k l : Nat} (h : leA L i j) (h1 : M[k]? = L[i]?) (h2 : M[l]? = L[j]?) : leA M k l := fun x y hx hy => h x y (by rw [← h1]; exact hx) (by rw [← h2]; exact hy)
def par (j : Nat) : Nat := (j - 1) / 2
def HeapO (L : List Msg) : Prop := ∀ j, 0 < j → j < L.length → leA L (par j) j
structure UpI (L : List Msg) (i : Nat) : Prop where
  a : ∀ j, 0 < j → j < L.length → j ≠ i → leA L (par j) j
  b : ∀ j, 0 < j → j < L.length → par j = i → 0 < i → leA L (par i) j
theorem UpI.of_heap {L : List Msg} (h : HeapO L) (i : Nat) : UpI L i := ⟨fun j h1 h2 _ => h j h1 h2, fun j h1 h2 h3 h4 => by
  have hi : i < L.length := by unfold par at h3; omega
  have := h j h1 h2
  rw [h3] at this
  exact (h i h4 hi).trans this hi⟩
theorem UpI.stop {L : List Msg} {i : Nat} (h : UpI L i) (hs : 0 < i → leA L (par i) i) : HeapO L := fun j h1 h2 => by
  by_cases e : j = i
  · subst e; exact hs h1
  · exact h.a j h1 h2 e
theorem UpI.step {L : List Msg} {i : Nat} {x y : Msg} (h : UpI L i) (hi : 0 < i) (hl : i < L.length) (hx : L[i]? = some x) (hy : L[par i]? = some y) (hb : befB x y = true) : UpI (swp L i (par i)) (par i) := by
  have hp : par i < i := by unfold par; omega
  have g : ∀ k, (swp L i (par i))[k]? = if k = par i then L[i]? else if k = i then L[par i]? else L[k]? := swp_get hl (by omega)
  have gi : (swp L i (par i))[i]? = L[par i]? := by rw [g, if_neg (by omega), if_pos rfl]
  have gp : (swp L i (par i))[par i]? = L[i]? := by rw [g, if_pos rfl]
  have go : ∀ k, k ≠ i → k ≠ par i → (swp L i (par i))[k]? = L[k]? := fun k h1 h2 => by rw [g, if_neg h2, if_neg h1]
  have lt := leA.of_lt hx hy hb
  refine ⟨fun j h1 h2 h3 => ?_, fun j h1 h2 h3 h4 => ?_⟩
  · rw [swp_length] at h2
    by_cases e1 : j = i
    · subst e1
      exact lt.congr gp gi
    · by_cases e2 : par j = i
      · rw [e2]
        exact (h.b j h1 h2 e2 hi).congr gi (go j e1 h3)
      · by_cases e3 : par j = par i
        · rw [e3]
          have := h.a j h1 h2 e1
          rw [e3] at this
          exact (lt.trans this (by omega)).congr gp (go j e1 h3)
        · exact (h.a j h1 h2 e1).congr (go _ e2 e3) (go j e1 h3)
  · rw [swp_length] at h2
    have hpp : par (par i) < par i := by unfold par at *; omega
    have hq : (swp L i (par i))[par (par i)]? = L[par (par i)]? := go _ (by omega) (by omega)
    have hpi := h.a (par i) h4 (by omega) (by omega)
    by_cases e1 : j = i
    · subst e1
      exact hpi.congr hq gi
    · have hj := h.a j h1 h2 e1
      rw [h3] at hj
      exact (hpi.trans hj (by omega)).congr hq (go j e1 (by unfold par at *; omega))
theorem HeapO.root {L : List Msg} (h : HeapO L) : ∀ j, j < L.length → leA L 0 j := by
  intro j
  induction j using Nat.strongRecOn with
  | ind j ih =>
    intro hj
    rcases Nat.eq_zero_or_pos j with h0 | h0
    · subst h0
      intro x y hx hy
      rw [hx] at hy; cases hy; exact befB_irrefl _
    · have hp : par j < j := by unfold par; omega
      exact (ih (par j) hp (by omega)).trans (h j h0 hj) (by omega)

/-- One goes down from i0, and stands at i. -/
structure DownI (L : List Msg) (i0 i : Nat) : Prop where
  ge : i0 ≤ i
  a : ∀ j, 0 < j → j < L.length → j ≠ i0 → par j ≠ i → leA L (par j) j
  b : ∀ j, 0 < j → j < L.length → par j = i → 0 < i → leA L (par i) j
  c : i ≠ i0 → 0 < i0 → leA L (par i0) i0
  d : ∀ j, 0 < j → j < L.length → par j = i0 → 0 < i0 → leA L (par i0) j
theorem DownI.stop {L : List Msg} {i0 i : Nat} (h : DownI L i0 i) (hs : ∀ j, 0 < j → j < L.length → par j = i → leA L i j) : UpI L i0 :=
  ⟨fun j h1 h2 h3 => by
    by_cases e : par j = i
    · rw [e]; exact hs j h1 h2 e
    · exact h.a j h1 h2 h3 e, h.d⟩
theorem DownI.step {L : List Msg} {i0 i c : Nat} {x y : Msg} (h : DownI L i0 i) (hc : 0 < c) (hcl : c < L.length) (hpc : par c = i) (hx : L[c]? = some x) (hy : L[i]? = some y) (hb : befB x y = true)
    (hmin : ∀ j, 0 < j → j < L.length → par j = i → leA L c j) : DownI (swp L i c) i0 c := by
  have hci : i < c := by unfold par at hpc; omega
  have hge := h.ge
  have g : ∀ k, (swp L i c)[k]? = if k = c then L[i]? else if k = i then L[c]? else L[k]? := swp_get (by omega) hcl
  have gi : (swp L i c)[i]? = L[c]? := by rw [g, if_neg (by omega), if_pos rfl]
  have gc : (swp L i c)[c]? = L[i]? := by rw [g, if_pos rfl]
  have go : ∀ k, k ≠ i → k ≠ c → (swp L i c)[k]? = L[k]? := fun k h1 h2 => by rw [g, if_neg h2, if_neg h1]
  have lt := leA.of_lt hx hy hb
  have parlt : ∀ j, 0 < j → par j < j := fun j hj => by unfold par; omega
  refine ⟨by omega, fun j h1 h2 h3 h4 => ?_, fun j h1 h2 h3 h4 => ?_, fun h1 h2 => ?_, fun j h1 h2 h3 h4 => ?_⟩
  · rw [swp_length] at h2
    by_cases e1 : j = i
    · subst e1
      have hp := parlt j h1
      exact (h.b c hc hcl hpc h1).congr (go _ (by omega) (by omega)) gi
    · by_cases e2 : par j = i
      · rw [e2]
        by_cases e3 : j = c
        · subst e3
          exact lt.congr gi gc
        · exact (hmin j h1 h2 e2).congr gi (go j e1 e3)
      · by_cases e3 : j = c
        · subst e3; exact absurd hpc e2
        · exact (h.a j h1 h2 h3 e2).congr (go _ e2 h4) (go j e1 e3)
  · rw [swp_length] at h2
    have hjc := parlt j h1
    rw [h3] at hjc
    have := h.a j h1 h2 (by omega) (by omega)
    rw [h3] at this
    rw [hpc]
    exact this.congr gi (go j (by omega) (by omega))
  · have hp := parlt i0 h2
    by_cases e : i = i0
    · subst e
      exact (h.b c hc hcl hpc h2).congr (go _ (by omega) (by omega)) gi
    · exact (h.c e h2).congr (go _ (by omega) (by omega)) (go _ (by omega) (by omega))
  · rw [swp_length] at h2
    have hp := parlt i0 h4
    have hj := parlt j h1
    have gp := go (par i0) (by omega) (by omega)
    by_cases e : i = i0
    · subst e
      by_cases e2 : j = c
      · subst e2
        exact ((h.b j h1 h2 h3 h4).trans lt (by omega)).congr gp gc
      · exact (h.b j h1 h2 h3 h4).congr gp (go j (by omega) e2)
    · by_cases e2 : j = i
      · subst e2
        have h5 := h.b c hc hcl hpc (by omega)
        rw [h3] at h5
        exact ((h.c e h4).trans h5 (by omega)).congr gp gi
      · have e3 : j ≠ c := fun e3 => by subst e3; rw [h3] at hpc; exact e hpc.symm
        exact (h.d j h1 h2 h3 h4).congr gp (go j e2 e3)
/-- Where one has taken the place of what is taken out. -/
theorem DownI.start {L : List Msg} (h : HeapO L) {i : Nat} (x : Msg) (M : List Msg) (hl : M.length ≤ L.length) (hM : ∀ k, k < M.length → k ≠ i → M[k]? = L[k]?) (hi : i < L.length) : DownI M i i :=
  ⟨Nat.le_refl _, fun j h1 h2 h3 h4 => by
    have hp : par j < j := by unfold par; omega
    exact (h j h1 (by omega)).congr (hM _ (by omega) h4) (hM _ h2 h3), fun j h1 h2 h3 h4 => by
    have hp : par j < j := by unfold par; omega
    have hq : par i < i := by unfold par; omega
    have h5 := h j h1 (by omega)
    rw [h3] at h5
    exact ((h i h4 hi).trans h5 hi).congr (hM _ (by omega) (by omega)) (hM _ h2 (by omega)), fun h1 => absurd rfl h1, fun j h1 h2 h3 h4 => by
    have hp : par j < j := by unfold par; omega
    have hq : par i < i := by unfold par; omega
    have h5 := h j h1 (by omega)
    rw [h3] at h5
    exact ((h i h4 hi).trans h5 hi).congr (hM _ (by omega) (by omega)) (hM _ h2 (by omega))⟩
end Go.Proofs.YtalmjdlcogdpmaaGreatDoor

namespace Go.Proofs.YtalmjdlcogdpmaaGreatDoor
open Go Go.RowKit
theorem srcBlkM {W : World} {b : Nat} {m : Msg} (h : Blk W b m.list) : SrcR W (slc b 1 1) 1 (msgCells [m]) :=
  .inr ⟨_, 1, rfl, fun j u hj => by
    have hj' : m.list[j]? = some u := by rw [← hj]; simp [msgCells]
    rw [show (⟨b, 0, none⟩ : Addr).add j = ⟨b, j, none⟩ by unfold Addr.add; split <;> simp_all]
    exact h.at hj'⟩
theorem SrcR.chg {S : Nat → Prop} {w w' : World} {v : Value} {n : Nat} {xs : List Value} (h : SrcR w v n xs) (hc : Chg S w w') (hn : ∀ k, sameBlock v k → ¬ S k) : SrcR w' v n xs := by
  rcases h with h | ⟨a, c, hv, ha⟩
  · exact .inl h
  · refine .inr ⟨a, c, hv, fun j u hj => hc.cell (fun hs => ?_) (ha j u hj)⟩
    refine hn a.block (by rw [hv]; rfl) ?_
    have : (a.add j).block = a.block := by unfold Addr.add; split <;> rfl
    rwa [this] at hs
theorem msgs_src {w : World} {v : Value} {L : List Msg} (h : RowM w v L) : SrcR w v L.length (msgCells L) := OwnR.src h
theorem msgs_len (L K : List Msg) : msgCells (L ++ K) = msgCells L ++ msgCells K := by simp [msgCells]
/-- What append makes of a row of messages. -/
structure Apd (w : World) (v : Value) (L K : List Msg) (v' : Value) (w' : World) : Prop where
  row : RowM w' v' (L ++ K)
  chg : Chg (sameBlock v) w w'
  new : ∀ k, sameBlock v' k → sameBlock v k ∨ w.heap.size ≤ k
theorem Apd.mk' {w w' : World} {v v' : Value} {L K : List Msg} (h : OwnR w' 43 7 v' (L.length + K.length) (msgCells L ++ msgCells K)) (hc : Chg (sameBlock v) w w') (hn : ∀ k, sameBlock v' k → sameBlock v k ∨ w.heap.size ≤ k) : Apd w v L K v' w' :=
  ⟨by unfold RowM; rw [List.length_append, msgs_len]; exact h, hc, hn⟩
section
variable {ops : Array Oper} {rest : List Oper} {o : Oper} {a : Act} {w : World} {v : Value} {L K : List Msg} {xv : Value}
theorem wpList_appendM {Q : Exit → Act → World → Prop} (hgd : o.guard = none) (s x : Operand) (ho : o.op = .call { callee := .builtin .append, args := #[s, x], argTypes := #[39, 39] })
    (hs : a.eval s = v) (hown : RowM w v L) (hx : a.eval x = xv) (hk : SrcR w xv K.length (msgCells K)) (hn : L.length + K.length ≤ 2000000)
    (h : ∀ v' w', Apd w v L K v' w' → wpList Tryz.prog ops Q rest (a.put o.dst v') w') : wpList Tryz.prog ops Q (o :: rest) a w := by
  obtain ⟨i0, hi0, hz0, hz1, hz2⟩ := info_parts infoMsg
  exact wpList_append_chg hgd s x _ ho 43 i0 _ 7 56 Tryz.underlying39 hi0 hz0 hz1 hz2 rfl (by decide) v L.length _ hs hown xv K.length _ hx (msgCells_length K) hk (msgs_one K) (by unfold maxLen; omega) (by omega) fun v' w' h1 h2 h3 => h v' w' (.mk' h1 h2 h3)
theorem wpNew_appendM {Q : Act → World → Prop} (hgd : o.guard = none) (s x : Operand) (ho : o.op = .call { callee := .builtin .append, args := #[s, x], argTypes := #[39, 39] })
    (hs : a.eval s = .slice none 0 0) (hx : a.eval x = xv) (hk : SrcR w xv K.length (msgCells K)) (hn : K.length ≤ 2000000)
    (h : ∀ v' W', Up w W' → RowM W' v' K → (∀ k, sameBlock v' k → w.heap.size ≤ k) → wpNew upPre Tryz.prog ops Q rest (a.put o.dst v') W') : wpNew upPre Tryz.prog ops Q (o :: rest) a w := by
  obtain ⟨i0, hi0, hz0, hz1, hz2⟩ := info_parts infoMsg
  exact wpNew_append hgd s x _ ho 43 i0 _ 7 56 Tryz.underlying39 hi0 hz0 hz1 hz2 rfl (by decide) hs xv K.length _ hx (msgCells_length K) hk (msgs_one K) (by unfold maxLen; omega) (by omega) fun v' w' h1 h2 h3 => h v' w' h1 h2 h3
theorem wpTail_appendM {Q : Act → World → Prop} (hgd : o.guard = none) (s x : Operand) (ho : o.op = .call { callee := .builtin .append, args := #[s, x], argTypes := #[39, 39] })
    (hs : a.eval s = v) (hown : RowM w v L) (hx : a.eval x = xv) (hk : SrcR w xv K.length (msgCells K)) (hn : L.length + K.length ≤ 2000000)
    (h : ∀ v' w', Apd w v L K v' w' → wpTail Tryz.prog ops Q rest (a.put o.dst v') w') : wpTail Tryz.prog ops Q (o :: rest) a w := by
  obtain ⟨i0, hi0, hz0, hz1, hz2⟩ := info_parts infoMsg
  exact wpTail_append hgd s x _ ho 43 i0 _ 7 56 Tryz.underlying39 hi0 hz0 hz1 hz2 rfl (by decide) v L.length _ hs hown xv K.length _ hx (msgCells_length K) hk (msgs_one K) (by unfold maxLen; omega) (by omega) fun v' w' h1 h2 h3 => h v' w' (.mk' h1 h2 h3)
theorem wpTailS_appendM {S : Nat → Prop} {Q : Act → World → Prop} (hgd : o.guard = none) (s x : Operand) (ho : o.op = .call { callee := .builtin .append, args := #[s, x], argTypes := #[39, 39] })
    (hs : a.eval s = v) (hown : RowM w v L) (hS : ∀ k, sameBlock v k → S k) (hx : a.eval x = xv) (hk : SrcR w xv K.length (msgCells K)) (hn : L.length + K.length ≤ 2000000)
    (h : ∀ v' w', Apd w v L K v' w' → wpTailS (chgPre S) Tryz.prog ops Q rest (a.put o.dst v') w') : wpTailS (chgPre S) Tryz.prog ops Q (o :: rest) a w := by
  obtain ⟨i0, hi0, hz0, hz1, hz2⟩ := info_parts infoMsg
  exact wpTailS_append hgd s x _ ho 43 i0 _ 7 56 Tryz.underlying39 hi0 hz0 hz1 hz2 rfl (by decide) v L.length _ hs hown hS xv K.length _ hx (msgCells_length K) hk (msgs_one K) (by unfold maxLen; omega) (by omega) fun v' w' h1 h2 h3 => h v' w' (.mk' h1 h2 h3)
end
end Go.Proofs.YtalmjdlcogdpmaaGreatDoor

namespace Go.Proofs.YtalmjdlcogdpmaaGreatDoor
open Go.RowKit
attribute [local go_sem] upUpon_value upUpon_enter upUpon_skip upUpon_row ucUpon_value ucUpon_skip ucUpon_enter ucUpon_row

abbrev befF : Value := .func (.func 8) #[] #[]
/-- A heap in memory. -/
structure HeapIs (W : World) (h : Nat) (v : Value) (L : List Msg) : Prop where
  b : Blk W h [v, befF]
  r : RowM W v L
  fz : ∀ j, W.frozen? ⟨h, j, none⟩ = false
  ap : ¬ sameBlock v h
def heapFoot (h : Nat) (v : Value) (k : Nat) : Prop := k = h ∨ sameBlock v k
theorem HeapIs.chg {S : Nat → Prop} {W W' : World} {h : Nat} {v : Value} {L : List Msg} (x : HeapIs W h v L) (hc : Chg S W W') (hS : ∀ k, heapFoot h v k → ¬ S k) : HeapIs W' h v L :=
  ⟨x.b.chg hc (hS h (.inl rfl)), x.r.chgM hc fun k hk => hS k (.inr hk), fun j => (hc.marks _).trans (x.fz j), x.ap⟩
theorem HeapIs.up {W W' : World} {h : Nat} {v : Value} {L : List Msg} (x : HeapIs W h v L) (hu : Up W W') : HeapIs W' h v L := x.chg (S := fun _ => False) (.of_up hu) fun _ _ e => e
theorem HeapIs.lt {W : World} {h : Nat} {v : Value} {L : List Msg} (x : HeapIs W h v L) : ∀ k, heapFoot h v k → k < W.heap.size := fun k hk => by
  rcases hk with rfl | hk
  · exact x.b.lt (by simp)
  · exact OwnR.block_lt x.r k hk

theorem run_bef_nil (W : World) : (binOp .eql 46 befF .nilFunc).run Tryz.prog W = .ok (.bool false) W := by kernel_rfl
set_option maxHeartbeats 1000000 in
theorem heapnone_any (h : Nat) (w : World) (hb : w.cell? ⟨h, 1, none⟩ = some befF) : Calls Tryz.prog 125 #[.pointer (some ⟨h, 0, none⟩)] w fun e w' => e = .returned (.bool false) ∧ w' = w := by
  have hq := run_bef_nil
  go_enter Tryz.func125, Tryz.ntmps125
  go_wp2
  go_ret
  exact ⟨rfl, rfl⟩
set_option maxHeartbeats 1000000 in
theorem heapnew_any (w : World) : Calls Tryz.prog 33 #[] w fun e w' => e = .returned (.pointer (some ⟨w.heap.size, 0, none⟩)) ∧ Up w w' ∧ w'.heap.size = w.heap.size + 1 ∧ HeapIs w' w.heap.size (.slice none 0 0) [] := by
  go_enter Tryz.func33, Tryz.ntmps33
  go_wp2
  go_ret
  refine ⟨rfl, alloc_up _ _ _, by simp, Blk.alloc w [.slice none 0 0, befF] _, OwnR.nil _ _ _, fun j => new_free w (.map #[] 0) (alloc_up _ _ _) j _ (Nat.le_refl _), fun hk => by simp [sameBlock, Value.ownBlock] at hk⟩
set_option maxHeartbeats 1000000 in
theorem heaplen_any (h : Nat) (v : Value) (L : List Msg) (w : World) (x : HeapIs w h v L) : Calls Tryz.prog 122 #[.pointer (some ⟨h, 0, none⟩)] w fun e w' => e = .returned (.int .i64 L.length) ∧ w = w' := by
  obtain ⟨p, c, hv⟩ := OwnR.form x.r
  have rb := x.b.get
  rw [hv] at rb
  have HN := Lib.hid (heapnone_any h w (x.b.at (i := 1) rfl))
  clear x hv
  go_enter Tryz.func122, Tryz.ntmps122
  go_wp2_with fail
  refine HN.out.mono ?_
  rintro e w2 ⟨rfl, rfl⟩
  go_wp2
  go_ret
  exact ⟨rfl, rfl⟩
theorem BlkAt.blk0 {W : World} {b : Nat} {cs : List Value} (h : BlkAt W b 0 cs) : Blk W b cs := ⟨fun i hi => by have := h.get i hi; rwa [Nat.zero_add] at this⟩
/-- What First answers. -/
def FirstSays (L : List Msg) (e : Ending) : Prop := (L = [] ∧ e = .returned (.tuple #[zeroMsg.val, .int .i64 6])) ∨ ∃ m, L[0]? = some m ∧ e = .returned (.tuple #[m.val, .int .i64 0])
set_option maxHeartbeats 2000000 in
theorem heapfirst_any (h : Nat) (v : Value) (L : List Msg) (w : World) (x : HeapIs w h v L) : Calls Tryz.prog 121 #[.pointer (some ⟨h, 0, none⟩)] w fun e w' => Up w w' ∧ FirstSays L e := by
  have h1 := x.b.at (i := 1) rfl
  rcases L with _ | ⟨m, L⟩
  · obtain ⟨p, c, hv⟩ := OwnR.form x.r
    have h0 := x.b.at (i := 0) rfl
    rw [hv] at h0
    simp only [List.length_nil] at h0
    clear x hv
    go_enter Tryz.func121, Tryz.ntmps121
    go_upto_region 1 with (fail)
    refine wp_alloc1 fun W hU hsz bR => ?_
    have h0 := cell_up hU h0
    have h1 := cell_up hU h1
    have HN := Lib.hid (heapnone_any h W h1)
    go_wp2_with fail
    refine HN.out.mono ?_
    rintro e w2 ⟨rfl, rfl⟩
    have rR := bR.get
    have hF : ∀ j, w2.frozen? ⟨w.heap.size, j, none⟩ = false := fun j => new_free w (.map #[] 0) hU j _ (Nat.le_refl _)
    have bR2 := Blk.sets zeroMsg.list 0 bR (by simp)
    have hU2 : Up w (w2.setCells w.heap.size 0 zeroMsg.list) := (Chg.setCells (S := (· = w.heap.size)) (Or.inl rfl) zeroMsg.list 0 (Chg.of_up hU)).to_up fun k hk e => by omega
    have H := Lib.hid (And.intro bR2 hU2)
    clear bR2 hU2
    go_wp2
    exact bodyPost_ret (w := w2.setCells w.heap.size 0 zeroMsg.list) (results_blk_tmp rfl rfl H.out.1 Tryz.underlying43 rfl infoMsgN) rfl ⟨H.out.2, .inl ⟨rfl, rfl⟩⟩
  · obtain ⟨N, hN⟩ : ∃ N, (m :: L).length = N := ⟨_, rfl⟩
    obtain ⟨g, cap, hv, hbe⟩ := x.r.atM (i := 0) (m := m) rfl
    have h0 := x.b.at (i := 0) rfl
    rw [hv] at h0
    rw [hN] at h0
    rw [Nat.zero_mul] at hbe
    have hN1 : 0 < N := by rw [← hN]; simp
    have hd : ((N : Int) == 0) = false := by rw [beq_eq_false_iff_ne]; omega
    clear x hv hN
    go_enter Tryz.func121, Tryz.ntmps121
    go_upto_region 1 with (fail)
    refine wp_alloc1 fun W hU hsz bR => ?_
    have h0 := cell_up hU h0
    have h1 := cell_up hU h1
    have HN := Lib.hid (heapnone_any h W h1)
    go_wp2_with fail
    refine HN.out.mono ?_
    rintro e w2 ⟨rfl, rfl⟩
    have rR := bR.get
    have hbe2 := (hbe.up hU).blk0
    have rE := hbe2.get
    have hF : ∀ j, w2.frozen? ⟨w.heap.size, j, none⟩ = false := fun j => new_free w (.map #[] 0) hU j _ (Nat.le_refl _)
    have bR2 := Blk.sets m.list 0 bR (by simp)
    have hU2 : Up w (w2.setCells w.heap.size 0 m.list) := (Chg.setCells (S := (· = w.heap.size)) (Or.inl rfl) m.list 0 (Chg.of_up hU)).to_up fun k hk e => by omega
    have H := Lib.hid (And.intro bR2 hU2)
    clear bR2 hU2 hbe2 hbe
    go_wp2
    exact bodyPost_ret (w := w2.setCells w.heap.size 0 m.list) (results_blk_tmp rfl rfl H.out.1 Tryz.underlying43 rfl infoMsgN) rfl ⟨H.out.2, .inr ⟨m, rfl, rfl⟩⟩
end Go.Proofs.YtalmjdlcogdpmaaGreatDoor

namespace Go.Proofs.YtalmjdlcogdpmaaGreatDoor
open Go.RowKit Go.WideShapes
open Go.Maps (Keyed)

abbrev enOf (e : Int × Value) : Lit × DataW Value := (.int .i64 e.1, .held e.2)
def heldV (v : Value) : Option (DataW Value × List MemPlace) := some (.held v, [])
theorem keyed64 : Keyed Tryz.prog 2 := Maps.int_keyed Tryz.underlying2
/-- A map in block b: its entries. -/
abbrev MapIs (W : World) (b : Nat) (es : List (Int × Value)) : Prop := W.ownsMap Tryz.prog 2 heldV b es.length (.map (es.map enOf))
abbrev RangeIs (W : World) (b r : Nat) (es : List (Int × Value)) (left : Lit → Bool) (cnt : Nat) : Prop := W.ranges Tryz.prog 2 heldV b r es.length (.map (es.map enOf)) left cnt
def mget (es : List (Int × Value)) (k : Int) : Value := match es.find? (fun p => decide (p.1 = k)) with | some p => p.2 | none => .slice none 0 0

theorem same_key (a k : Int) : (Lit.int .i64 a).sameKey (.int .i64 k) = decide (a = k) := by simp [Lit.sameKey]
theorem atKey_es (es : List (Int × Value)) (k : Int) : (DataW.map (es.map enOf)).atKey (.int .i64 k) (.held (.slice none 0 0)) = .held (mget es k) := by
  unfold DataW.atKey mget
  simp only [List.find?_map, Function.comp_def, same_key]
  cases es.find? (fun p => decide (p.1 = k)) <;> rfl
theorem insert_es (x : Int × Value) : ∀ es : List (Int × Value), ∃ es' : List (Int × Value), DataW.insert (enOf x) (es.map enOf) = es'.map enOf ∧ es'.Perm (x :: es)
  | [] => ⟨[x], rfl, List.Perm.refl _⟩
  | y :: r => by
    obtain ⟨r', h1, h2⟩ := insert_es x r
    simp only [List.map_cons, DataW.insert]
    split
    · exact ⟨x :: y :: r, rfl, List.Perm.refl _⟩
    · exact ⟨y :: r', by rw [h1]; rfl, (h2.cons y).trans (List.Perm.swap x y r)⟩
theorem filter_es (es : List (Int × Value)) (k : Int) : (es.map enOf).filter (fun p => !p.1.sameKey (.int .i64 k)) = (es.filter fun p => !decide (p.1 = k)).map enOf := by
  rw [List.filter_map]
  simp only [Function.comp_def, same_key]

section
variable {W W' : World} {b r cnt : Nat} {es : List (Int × Value)} {left : Lit → Bool}
theorem own_exact {n : Nat} (h : W.ownsMap Tryz.prog 2 heldV b n (.map (es.map enOf))) : MapIs W b es := by
  obtain ⟨xs, clock, hb, F, _, hD⟩ := h
  refine ⟨xs, clock, hb, F, ?_, hD⟩
  injection hD with hD
  have := congrArg List.length hD
  rw [length_sorted] at this
  simp at this
  omega
theorem MapIs.lt (h : MapIs W b es) : b < W.heap.size := World.ownsMap.lt h
theorem MapIs.chg {S : Nat → Prop} (h : MapIs W b es) (hc : Chg S W W') (hn : ¬ S b) : MapIs W' b es := by
  have hlt := h.lt
  obtain ⟨xs, clock, hb, r⟩ := h
  exact ⟨xs, clock, (hc.block b hlt hn).trans hb, r⟩
theorem MapIs.keys (h : MapIs W b es) : es.Pairwise (fun p q => p.1 ≠ q.1) := by
  obtain ⟨xs, h1, h2⟩ := World.ownsMap.tidy h keyed64
  injection h1 with h1
  subst h1
  rw [List.pairwise_map] at h2
  exact h2.imp fun hne e => hne (by simp [enOf, e])
theorem ranges_iter (h : RangeIs W b r es left cnt) : ∃ x y z t, W.heap[r]? = some (.mapIter x y z t) := by
  obtain ⟨_, _, since, seen, c0, _, _, _, _, hr, _⟩ := h
  exact ⟨_, _, _, _, hr⟩
theorem RangeIs.chg {S : Nat → Prop} (h : RangeIs W b r es left cnt) (hc : Chg S W W') (hb : ¬ S b) (hr : ¬ S r) : RangeIs W' b r es left cnt := by
  have h1 := h.owns.lt
  have h2 := h.lt
  obtain ⟨es', clock, since, seen, c0, hb', F, hs, hD, hr', rest⟩ := h
  exact ⟨es', clock, since, seen, c0, (hc.block b h1 hb).trans hb', F, hs, hD, (hc.block r h2 hr).trans hr', rest⟩
theorem turned_chg (h : W.mapTurned W' b) : Chg (· = b) W W' := by
  have g := h.grown
  exact ⟨g.os, g.tape, g.output, g.size, fun k hk hn => g.block k hk (fun e => hn (by injection e)), h.frozen⟩
theorem next_chg {left' : Lit → Bool} {cnt' : Nat} (h : RangeIs W b r es left cnt) (h' : RangeIs W' b r es left' cnt') (g : W.grownBy W' (some r)) (hs : W'.heap.size = W.heap.size) : Chg (· = r) W W' := by
  refine ⟨g.os, g.tape, g.output, g.size, fun k hk hn => g.block k hk (fun e => hn (by injection e)), fun a => ?_⟩
  obtain ⟨x, y, z, t, e1⟩ := ranges_iter h
  obtain ⟨x', y', z', t', e2⟩ := ranges_iter h'
  unfold World.frozen?
  by_cases ha : a.block = r
  · rw [ha, e1, e2]
  · rcases Nat.lt_or_ge a.block W.heap.size with hl | hl
    · rw [g.block a.block hl (fun e => ha (by injection e))]
    · rw [Array.getElem?_eq_none hl, Array.getElem?_eq_none (by omega)]
theorem range_up (h' : RangeIs W' b W.heap.size es left cnt) (g : W.grownBy W' none) (hs : W'.heap.size = W.heap.size + 1) : Up W W' := by
  refine ⟨⟨g.os, g.tape, g.output, g.size, fun k hk => g.block k hk (fun e => by cases e)⟩, fun a => ?_⟩
  obtain ⟨x', y', z', t', e2⟩ := ranges_iter h'
  unfold World.frozen?
  rcases Nat.lt_trichotomy a.block W.heap.size with hl | hl | hl
  · rw [g.block a.block hl (fun e => by cases e)]
  · rw [hl, e2, Array.getElem?_eq_none (Nat.le_refl _)]
  · rw [Array.getElem?_eq_none (by omega), Array.getElem?_eq_none (by omega)]
theorem keyof64 {k : Int} (hw : (Lit.int .i64 k).wf = true) : keyOf Tryz.prog 2 (.int .i64 k) = some (.int .i64 k) := Maps.keyOf_int_mk Tryz.underlying2 hw
theorem zeroRow (W : World) : (zeroValue 39).run Tryz.prog W = .ok (.slice none 0 0) W := by
  have hz : (Tryz.prog.info? 39).map (fun i => (i.zero, i.size)) = some (some (.slice none 0 0), 1) := by kernel_rfl
  obtain ⟨i, hi, h⟩ := Option.map_eq_some_iff.1 hz
  have h1 : i.zero = some (.slice none 0 0) := congrArg Prod.fst h
  simp [zeroValue, typeInfo, hi, h1]
theorem map_lookup (h : MapIs W b es) {k : Int} (hw : (Lit.int .i64 k).wf = true) : (Instr.lookup 114 (.map (some b)) (.int .i64 k) false).run Tryz.prog W = .ok (mget es k) W := by
  obtain ⟨v, ps, h1, h2⟩ := World.ownsMap.lookup h keyed64 Tryz.underlying114 (zeroRow W) (zd := .held (.slice none 0 0)) (zp := []) rfl (keyof64 hw)
  rw [atKey_es] at h2
  simp only [heldV, Option.some.injEq, Prod.mk.injEq, DataW.held.injEq] at h2
  rw [h1, h2.1]
theorem map_put (h : MapIs W b es) {k : Int} (hw : (Lit.int .i64 k).wf = true) (hn : es.length < maxLen) (v : Value) :
    ∃ W' es', (Instr.mapUpdate 114 (.map (some b)) (.int .i64 k) v).run Tryz.prog W = .ok () W' ∧ MapIs W' b es' ∧ es'.Perm ((k, v) :: es.filter fun p => !decide (p.1 = k)) ∧ Chg (· = b) W W' := by
  obtain ⟨W', h1, h2, h3⟩ := World.ownsMap.store h keyed64 Tryz.underlying114 hn (key := .int .i64 k) (val := v) (keyof64 hw) (d := .held v) (ps := []) rfl
  obtain ⟨es', e1, e2⟩ := insert_es (k, v) (es.filter fun p => !decide (p.1 = k))
  have hD : (DataW.map (es.map enOf)).put (.int .i64 k) (.held v) = .map (es'.map enOf) := by
    show DataW.map (DataW.insert (Lit.int .i64 k, DataW.held v) ((es.map enOf).filter fun p => !p.1.sameKey (.int .i64 k))) = _
    rw [filter_es, ← e1]
  rw [hD] at h2
  exact ⟨W', es', h1, own_exact h2, e2, turned_chg h3⟩
theorem map_del (h : MapIs W b es) {k : Int} (hw : (Lit.int .i64 k).wf = true) (ty : TypeId) :
    ∃ W', (Builtin.delete_ #[114, 2] ty #[.map (some b), .int .i64 k]).run Tryz.prog W = .ok (.tuple #[]) W' ∧ MapIs W' b (es.filter fun p => !decide (p.1 = k)) ∧ Chg (· = b) W W' := by
  obtain ⟨W', h1, h2, h3⟩ := World.ownsMap.drop h keyed64 Tryz.underlying114 (key := .int .i64 k) (keyof64 hw) ty
  have hD : (DataW.map (es.map enOf)).del (.int .i64 k) = .map ((es.filter fun p => !decide (p.1 = k)).map enOf) := by
    show DataW.map ((es.map enOf).filter fun p => !p.1.sameKey (.int .i64 k)) = _
    rw [filter_es]
  rw [hD] at h2
  exact ⟨W', h1, own_exact h2, turned_chg h3⟩
end
theorem map_made (W : World) : MapIs (W.alloc (.map #[] 0)) W.heap.size [] := World.ownsMap_made W _ _ _

section
variable {W : World} {ops : Array Oper} {rest : List Oper} {o : Oper} {a : Act} {Q : Exit → Act → World → Prop} {b r cnt : Nat} {es : List (Int × Value)} {left : Lit → Bool}
theorem wpList_mapPut (hg : o.guard = none) (m x v : Operand) (hop : o.op = Op.mapUpdate 114 m x v) {k : Int} {u : Value}
    (hm : a.eval m = .map (some b)) (h : MapIs W b es) (hn : es.length < maxLen) (hx : a.eval x = .int .i64 k) (hw : (Lit.int .i64 k).wf = true) (hv : a.eval v = u)
    (hK : ∀ W' es', MapIs W' b es' → es'.Perm ((k, u) :: es.filter fun p => !decide (p.1 = k)) → Chg (· = b) W W' → wpList Tryz.prog ops Q rest (a.put o.dst undef) W') :
    wpList Tryz.prog ops Q (o :: rest) a W := by
  refine wpList_plain hg fun K' hK' => ?_
  obtain ⟨w', es', hrun, r1, r2, r3⟩ := map_put h hw hn u
  unfold Oper.wp
  simp [execOp, hop, hm, hx, hv, hrun, Result.andThen]
  exact hK' _ _ (hK w' es' r1 r2 r3)
theorem wpList_mapDel (hg : o.guard = none) (m x : Operand) (hop : o.op = Op.call { callee := Callee.builtin Builtin.delete, args := #[m, x], argTypes := #[114, 2] }) {k : Int}
    (hm : a.eval m = .map (some b)) (h : MapIs W b es) (hx : a.eval x = .int .i64 k) (hw : (Lit.int .i64 k).wf = true)
    (hK : ∀ W', MapIs W' b (es.filter fun p => !decide (p.1 = k)) → Chg (· = b) W W' → wpList Tryz.prog ops Q rest (a.put o.dst (.tuple #[])) W') :
    wpList Tryz.prog ops Q (o :: rest) a W := by
  refine wpList_plain hg fun K' hK' => ?_
  obtain ⟨w', hrun, r1, r2⟩ := map_del h hw o.type
  unfold Oper.wp
  simp [execOp, hop, resolve, invoke, builtin, hm, hx, hrun, Result.andThen]
  exact hK' _ _ (hK w' r1 r2)
theorem has_es {e : Int × Value} (he : e ∈ es) : Maps.has (DataW.map (es.map enOf)) (.int .i64 e.1) = true :=
  List.any_eq_true.2 ⟨enOf e, List.mem_map.2 ⟨e, he, rfl⟩, by rw [same_key]; simp⟩
theorem wpList_mapRange (hg : o.guard = none) (m : Operand) (hop : o.op = Op.range 114 m) (hm : a.eval m = .map (some b)) (h : MapIs W b es)
    (hK : ∀ W', RangeIs W' b W.heap.size es (Maps.has (DataW.map (es.map enOf))) (Maps.size (DataW.map (es.map enOf))) → Up W W' → W'.heap.size = W.heap.size + 1 → wpList Tryz.prog ops Q rest (a.put o.dst (.pointer (some ⟨W.heap.size, 0, none⟩))) W') :
    wpList Tryz.prog ops Q (o :: rest) a W :=
  wpList_range_own W hg m _ hop _ _ keyed64 Tryz.underlying114 heldV b es.length _ hm h fun W' h1 h2 h3 => hK W' h1 (range_up h1 h2 h3) h3
theorem wpList_mapNext (hg : o.guard = none) (it : Operand) (hop : o.op = Op.next it false) (hit : a.eval it = .pointer (some ⟨r, 0, none⟩)) (h : RangeIs W b r es left cnt)
    (hDone : (∀ kl, left kl = false) → wpList Tryz.prog ops Q rest (a.put o.dst (.tuple #[.bool false])) W)
    (hMore : ∀ (k : Int) (v : Value) (W' : World) (cnt' : Nat), (k, v) ∈ es → left (.int .i64 k) = true → RangeIs W' b r es (fun z => left z && !z.sameKey (.int .i64 k)) cnt' → cnt' < cnt → Chg (· = r) W W' → W'.heap.size = W.heap.size →
      (Instr.entry (.pointer (some ⟨r, 0, none⟩))).run Tryz.prog W' = .ok (.tuple #[.int .i64 k, v]) W' → wpList Tryz.prog ops Q rest (a.put o.dst (.tuple #[.bool true, .int .i64 k, v])) W') :
    wpList Tryz.prog ops Q (o :: rest) a W := by
  refine wpList_next_ranges W hg it hop _ keyed64 heldV (Value.int .i64) id (fun key kl hkey => ?_) (fun v y _ => ⟨v, rfl⟩) b r es.length _ left cnt hit h (fun _ => hDone) fun x c kl y W' cnt' hkey hl hv hat hr hlt hg hs hen => ?_
  · obtain ⟨x, h1, _⟩ := Maps.keyOf_int_inv Tryz.underlying2 hkey
    exact ⟨x, h1⟩
  · obtain ⟨x', ex, hkl, hw⟩ := Maps.keyOf_int_inv Tryz.underlying2 hkey
    cases ex
    subst hkl
    have hy : y = (.held c, []) := by simpa [heldV] using hv.symm
    subst hy
    have hm : (x, c) ∈ es := by
      have h1 := hat .nil
      unfold DataW.atKey at h1
      simp only [List.find?_map, Function.comp_def, same_key] at h1
      cases hf : es.find? (fun p => decide (p.1 = x)) with
      | none => rw [hf] at h1; cases h1
      | some p =>
        rw [hf] at h1
        simp only [Option.map_some, DataW.held.injEq] at h1
        have h2 := List.mem_of_find?_eq_some hf
        have h3 := List.find?_some hf
        obtain ⟨p1, p2⟩ := p
        simp only [decide_eq_true_eq] at h3
        rw [← h3, ← h1]
        exact h2
    exact hMore x c W' cnt' hm hl hr hlt (next_chg h hr hg hs) hs hen
end
end Go.Proofs.YtalmjdlcogdpmaaGreatDoor

namespace Go.Proofs.YtalmjdlcogdpmaaGreatDoor
open Go Go.RowKit
section
variable {P : Program}
theorem run_copy_K (w : World) (dT sT ty elem : TypeId) (size : Nat) (b o dLen dCap : Nat) (a : Addr) (sLen sCap : Nat) (cs : List Value)
    (hu : P.underlying dT = some (.slice elem)) (hs : (P.info? elem).map (·.size) = some size) (hn : cs.length = Nat.min sLen dLen * size)
    (hsrc : ∀ j v, cs[j]? = some v → w.cell? (a.add j) = some v) (hc : ∀ j, j < cs.length → (w.cell? ⟨b, o + j, none⟩).isSome = true) (hf : ∀ j, j < cs.length → w.frozen? ⟨b, o + j, none⟩ = false) (h1 : ∀ v ∈ cs, v.oneCell' = true) :
    (Builtin.copy_ #[dT, sT] ty #[.slice (some ⟨b, o, none⟩) dLen dCap, .slice (some a) sLen sCap]).run P w = .ok (goInt (Nat.min sLen dLen)) (w.setCells b o cs) := by
  have hl := run_loadCells_list (P := P) w a cs hsrc
  have hst := run_storeCells_cells (P := P) b o cs 0 w (by simpa using hc) (by simpa using hf) h1
  cases hq : P.info? elem with
  | none => simp [hq] at hs
  | some i =>
    have hi : i.size = size := by simpa [hq] using hs
    simp [Builtin.copy_, run_underlying hu, Builtin.lenOf, Builtin.firstCells, sizeOf, typeInfo, hq, hi, ← hn, hl, hst]
theorem run_copy_K0 (w : World) (dT sT ty elem : TypeId) (size : Nat) (d a : Option Addr) (dLen dCap sLen sCap : Nat) (hu : P.underlying dT = some (.slice elem)) (hs : (P.info? elem).map (·.size) = some size) (hn : Nat.min sLen dLen = 0) :
    (Builtin.copy_ #[dT, sT] ty #[.slice d dLen dCap, .slice a sLen sCap]).run P w = .ok (goInt 0) w := by
  cases hq : P.info? elem with
  | none => simp [hq] at hs
  | some i =>
    have hl : ∀ (x : Addr), (loadCells x 0).run P w = .ok #[] w := fun x => by simpa using run_loadCells_list (P := P) w x [] (by simp)
    cases d <;> cases a <;> simp [Builtin.copy_, run_underlying hu, Builtin.lenOf, Builtin.firstCells, sizeOf, typeInfo, hq, hn, storeCells, hl]
end
/-- A list with K written over it from o on. -/
def spl (L : List Msg) (o : Nat) (K : List Msg) : List Msg := L.take o ++ (K ++ L.drop (o + K.length))
theorem spl_nil (L : List Msg) (o : Nat) : spl L o [] = L := by simp [spl]
theorem spl_length {L K : List Msg} {o : Nat} (h : o + K.length ≤ L.length) : (spl L o K).length = L.length := by simp [spl]; omega
theorem spl_get {L K : List Msg} {o : Nat} (h : o + K.length ≤ L.length) (i : Nat) : (spl L o K)[i]? = if i < o then L[i]? else if i < o + K.length then K[i - o]? else L[i]? := by
  unfold spl
  have h1 : (L.take o).length = o := by rw [List.length_take]; omega
  by_cases e1 : i < o
  · rw [if_pos e1, List.getElem?_append_left (by omega), List.getElem?_take_of_lt e1]
  · rw [if_neg e1, List.getElem?_append_right (by omega), h1]
    by_cases e2 : i < o + K.length
    · rw [if_pos e2, List.getElem?_append_left (by omega)]
    · rw [if_neg e2, List.getElem?_append_right (by omega), List.getElem?_drop]
      congr 1; omega
theorem setL_msgs {L K : List Msg} {o : Nat} (h : o + K.length ≤ L.length) : setL (msgCells L) (o * 7) (msgCells K) = msgCells (spl L o K) := by
  apply List.ext_getElem?
  intro k
  have hl : (msgCells L).length = L.length * 7 := msgCells_length L
  have hk : (msgCells K).length = K.length * 7 := msgCells_length K
  rcases Nat.lt_or_ge k (L.length * 7) with hlt | hge
  · obtain ⟨q, r, hr, rfl⟩ : ∃ q r, r < 7 ∧ k = q * 7 + r := ⟨k / 7, k % 7, Nat.mod_lt _ (by omega), by omega⟩
    have hq : q < L.length := by omega
    by_cases e : o ≤ q ∧ q < o + K.length
    · have hx : K[q - o]? = some K[q - o] := List.getElem?_eq_getElem (by omega)
      rw [show q * 7 + r = o * 7 + ((q - o) * 7 + r) by omega, setL_in _ _ _ _ (by omega) (by omega), msgCells_at hx hr,
        show o * 7 + ((q - o) * 7 + r) = q * 7 + r by omega, msgCells_at (m := K[q - o]) (by rw [spl_get h, if_neg (by omega), if_pos (by omega)]; exact hx) hr]
    · have hx : L[q]? = some L[q] := List.getElem?_eq_getElem hq
      rw [setL_out _ _ _ _ (by omega), msgCells_at hx hr, msgCells_at (m := L[q]) (by
        rw [spl_get h]
        by_cases e1 : q < o
        · rw [if_pos e1]; exact hx
        · rw [if_neg e1, if_neg (by omega)]; exact hx) hr]
  · rw [List.getElem?_eq_none (by rw [setL_length]; omega), List.getElem?_eq_none (by rw [msgCells_length, spl_length h]; omega)]
section
variable {W : World} {g n cap : Nat} {L : List Msg}
theorem OwnR.splM (h : RowM W (slc g n cap) L) {o : Nat} {K : List Msg} (hl : o + K.length ≤ L.length) : RowM (W.setCells g (o * 7) (msgCells K)) (slc g n cap) (spl L o K) := by
  have h1 : (msgCells L).length = L.length * 7 := msgCells_length L
  have h2 : (msgCells K).length = K.length * 7 := msgCells_length K
  have := OwnR.sets (g := g) (v := slc g n cap) rfl (msgCells K) (o * 7) h (by rw [h1, h2]; omega)
  rw [setL_msgs hl] at this
  unfold RowM
  rw [spl_length hl]
  exact this
theorem run_copyM (h : RowM W (slc g n cap) L) {o : Nat} {K : List Msg} (hl : o + K.length ≤ L.length) (ty : TypeId) (dLen dCap : Nat) (ad : Addr) (sLen sCap : Nat) (hn : K.length = Nat.min sLen dLen)
    (hsrc : ∀ j u, (msgCells K)[j]? = some u → W.cell? (ad.add j) = some u) :
    (Builtin.copy_ #[39, 39] ty #[.slice (some ⟨g, o * 7, none⟩) dLen dCap, .slice (some ad) sLen sCap]).run Tryz.prog W = .ok (goInt K.length) (W.setCells g (o * 7) (msgCells K)) := by
  have h1 : (msgCells K).length = K.length * 7 := msgCells_length K
  rw [hn]
  refine run_copy_K W _ _ ty 43 7 g (o * 7) dLen dCap ad sLen sCap (msgCells K) Tryz.underlying39 infoMsgN (by rw [h1, hn]) hsrc (fun j hj => ?_) (fun j hj => h.frozen (g := g) rfl _) (msgs_one K)
  obtain ⟨u, hu⟩ : ∃ u, (msgCells L)[o * 7 + j]? = some u := ⟨(msgCells L)[o * 7 + j]'(by rw [msgCells_length]; omega), List.getElem?_eq_getElem _⟩
  rw [h.cell (g := g) rfl _ _ hu]; rfl
theorem wpList_copyM {ops : Array Oper} {rest : List Oper} {op : Oper} {a : Act} {Q : Exit → Act → World → Prop} (hgd : op.guard = none) (d s : Operand)
    (ho : op.op = .call { callee := .builtin .copy, args := #[d, s], argTypes := #[39, 39] })
    (h : RowM W (slc g n cap) L) {o : Nat} {K : List Msg} (hl : o + K.length ≤ L.length) (dLen dCap : Nat) (ad : Addr) (sLen sCap : Nat) (hd : a.eval d = .slice (some ⟨g, o * 7, none⟩) dLen dCap) (hs : a.eval s = .slice (some ad) sLen sCap) (hn : K.length = Nat.min sLen dLen)
    (hsrc : ∀ j u, (msgCells K)[j]? = some u → W.cell? (ad.add j) = some u)
    (k : ∀ W', RowM W' (slc g n cap) (spl L o K) → Chg (· = g) W W' → wpList Tryz.prog ops Q rest (a.put op.dst (goInt K.length)) W') : wpList Tryz.prog ops Q (op :: rest) a W := by
  refine wpList_plain hgd fun _ hK => ?_
  unfold Oper.wp execOp
  simp only [ho, resolve, invoke, builtin, Sem.run_bind, Sem.run_pure, Result.andThen_ok, List.map_toArray, List.map_cons, List.map_nil, hd, hs, run_copyM h hl op.type dLen dCap ad sLen sCap hn hsrc]
  exact hK _ _ (k _ (h.splM hl) (Chg.setCells (S := (· = g)) (Or.inl rfl) _ _ (Chg.refl _ W)))
theorem wpList_copy0 {ops : Array Oper} {rest : List Oper} {op : Oper} {a : Act} {Q : Exit → Act → World → Prop} (hgd : op.guard = none) (d s : Operand)
    (ho : op.op = .call { callee := .builtin .copy, args := #[d, s], argTypes := #[39, 39] })
    (dp sp : Option Addr) (dLen dCap sLen sCap : Nat) (hd : a.eval d = .slice dp dLen dCap) (hs : a.eval s = .slice sp sLen sCap) (hn : Nat.min sLen dLen = 0)
    (k : wpList Tryz.prog ops Q rest (a.put op.dst (goInt 0)) W) : wpList Tryz.prog ops Q (op :: rest) a W := by
  refine wpList_plain hgd fun _ hK => ?_
  unfold Oper.wp execOp
  simp only [ho, resolve, invoke, builtin, Sem.run_bind, Sem.run_pure, Result.andThen_ok, List.map_toArray, List.map_cons, List.map_nil, hd, hs, run_copy_K0 W _ _ op.type 43 7 dp sp dLen dCap sLen sCap Tryz.underlying39 infoMsgN hn]
  exact hK _ _ k
end
end Go.Proofs.YtalmjdlcogdpmaaGreatDoor

namespace Go.Proofs.YtalmjdlcogdpmaaGreatDoor
open Go.RowKit
attribute [local go_sem] upUpon_value upUpon_enter upUpon_skip upUpon_row ucUpon_value ucUpon_skip ucUpon_enter ucUpon_row

abbrev RowV (W : World) (rv : Value) (vs : List Value) : Prop := OwnR W 235 1 rv vs.length vs
/-- A ladder in memory. -/
structure LadIs (W : World) (q : Nat) (lv rv : Value) (vs : List Value) (L : List Msg) (Rs : List (List Msg)) : Prop where
  b : Blk W q [lv, .int .i64 32, rv]
  r : RowM W lv L
  g : RowV W rv vs
  len : vs.length = Rs.length
  rr : ∀ (k : Nat) (v : Value) (R : List Msg), vs[k]? = some v → Rs[k]? = some R → RowM W v R
  fz : ∀ j, W.frozen? ⟨q, j, none⟩ = false
  ql : ¬ sameBlock lv q
  qr : ¬ sameBlock rv q
  qv : ∀ v ∈ vs, ¬ sameBlock v q
  lr : ∀ k, sameBlock lv k → ¬ sameBlock rv k
  ls : ∀ v ∈ vs, ∀ k, sameBlock lv k → ¬ sameBlock v k
  rs : ∀ v ∈ vs, ∀ k, sameBlock rv k → ¬ sameBlock v k
  ss : ∀ (i j : Nat) (v u : Value), i ≠ j → vs[i]? = some v → vs[j]? = some u → ∀ k, sameBlock v k → ¬ sameBlock u k
def ladFoot (q : Nat) (lv rv : Value) (vs : List Value) (k : Nat) : Prop := k = q ∨ sameBlock lv k ∨ sameBlock rv k ∨ ∃ v ∈ vs, sameBlock v k
section
variable {W W' : World} {q : Nat} {lv rv : Value} {vs : List Value} {L : List Msg} {Rs : List (List Msg)}
theorem LadIs.chg {S : Nat → Prop} (x : LadIs W q lv rv vs L Rs) (hc : Chg S W W') (hS : ∀ k, ladFoot q lv rv vs k → ¬ S k) : LadIs W' q lv rv vs L Rs :=
  ⟨x.b.chg hc (hS q (.inl rfl)), x.r.chgM hc fun k hk => hS k (.inr (.inl hk)), OwnR.chg x.g hc fun k hk => hS k (.inr (.inr (.inl hk))), x.len,
   fun k v R hv hR => (x.rr k v R hv hR).chgM hc fun j hj => hS j (.inr (.inr (.inr ⟨v, List.mem_of_getElem? hv, hj⟩))), fun j => (hc.marks _).trans (x.fz j), x.ql, x.qr, x.qv, x.lr, x.ls, x.rs, x.ss⟩
theorem LadIs.up (x : LadIs W q lv rv vs L Rs) (hu : Up W W') : LadIs W' q lv rv vs L Rs := x.chg (S := fun _ => False) (.of_up hu) fun _ _ e => e
theorem LadIs.lt (x : LadIs W q lv rv vs L Rs) : ∀ k, ladFoot q lv rv vs k → k < W.heap.size := fun k hk => by
  rcases hk with rfl | hk | hk | ⟨v, hv, hk⟩
  · exact x.b.lt (by simp)
  · exact OwnR.block_lt x.r k hk
  · exact OwnR.block_lt x.g k hk
  · obtain ⟨i, hi⟩ := List.getElem?_of_mem hv
    have hl := (List.getElem?_eq_some_iff.1 hi).1
    exact OwnR.block_lt (x.rr i v (Rs[i]'(by rw [← x.len]; exact hl)) hi (List.getElem?_eq_getElem _)) k hk
end

set_option maxHeartbeats 1000000 in
theorem ladnone_any (q : Nat) (w : World) (hb : w.cell? ⟨q, 1, none⟩ = some (.int .i64 32)) : Calls Tryz.prog 154 #[.pointer (some ⟨q, 0, none⟩)] w fun e w' => e = .returned (.bool false) ∧ w' = w := by
  go_enter Tryz.func154, Tryz.ntmps154
  go_wp2
  go_ret
  exact ⟨rfl, rfl⟩
theorem no_block {k : Nat} : ¬ sameBlock (.slice none 0 0) k := fun hk => by simp [sameBlock, Value.ownBlock] at hk
set_option maxHeartbeats 1000000 in
theorem ladnew_any (w : World) : Calls Tryz.prog 35 #[.int .i64 32] w fun e w' => e = .returned (.tuple #[.pointer (some ⟨w.heap.size, 0, none⟩), .int .i64 0]) ∧ Up w w' ∧ w'.heap.size = w.heap.size + 1 ∧ LadIs w' w.heap.size (.slice none 0 0) (.slice none 0 0) [] [] [] := by
  go_enter Tryz.func35, Tryz.ntmps35
  go_wp2
  go_ret2
  refine ⟨rfl, alloc_up _ _ _, by simp, Blk.alloc w [.slice none 0 0, .int .i64 32, .slice none 0 0] _, OwnR.nil _ _ _, OwnR.nil _ _ _, rfl, fun k v R h => by simp at h, fun j => new_free w (.map #[] 0) (alloc_up _ _ _) j _ (Nat.le_refl _), no_block, no_block, fun v h => by simp at h, fun k h => absurd h no_block, fun v h => by simp at h, fun v h => by simp at h, fun i j v u _ h => by simp at h⟩

/-- Are all behind a message? -/
def abvB (R : List Msg) (m : Msg) : Bool := R.all fun x => befB m x
set_option maxRecDepth 100000 in
set_option maxHeartbeats 2000000 in
theorem above_any (v : Value) (R : List Msg) (m : Msg) (w : World) (h : RowM w v R) (hn : R.length ≤ 1000000) :
    Calls Tryz.prog 157 #[v, m.val] w fun e w' => Up w w' ∧ e = .returned (.bool (abvB R m)) := by
  obtain ⟨p, c, hv⟩ := OwnR.form h
  have H := Lib.hid (And.intro h hv)
  clear h
  simp only [Msg.val]
  rw [hv]
  clear hv
  go_enter Tryz.func157, Tryz.ntmps157
  go_upto_region 1 with (fail)
  refine wp_alloc1 fun W1 hU1 hs1 bM => ?_
  have HM := Lib.hid (And.intro hU1 bM)
  clear hU1 hs1 bM
  go_wp2_with fail
  go_loopw [9] (fun x wr => ∃ i : Nat, i ≤ R.length ∧ x = .int .i64 i ∧ Hid (Up W1 wr) ∧ Hid (∀ (j : Nat) (y : Msg), j < i → R[j]? = some y → befB m y = true)) (fun x _ => R.length - (intOf x).toNat)
  case atStart => exact ⟨0, Nat.zero_le _, rfl, Lib.hid (Up.refl _), Lib.hid (fun j y h => by omega)⟩
  case round =>
    obtain ⟨i, hi, rfl, hU, hall⟩ := hrel
    by_cases hlt : i < R.length
    · obtain ⟨y, hy⟩ : ∃ y, R[i]? = some y := ⟨R[i], by simp [hlt]⟩
      obtain ⟨g, cap, hv, hbe⟩ := OwnR.atM (H.out.1.upM (HM.out.1.trans hU.out)) hy
      have hpg : p = some ⟨g, 0, none⟩ := by have := H.out.2; rw [hv] at this; injection this with h1 _ _; exact h1.symm
      have hcc : c = cap := by have := H.out.2; rw [hv] at this; injection this with _ _ h1; exact h1.symm
      subst hpg hcc
      have rE := hbe.get
      have rE0 := hbe.zero
      have HE := Lib.hid hy
      clear hy hv hbe
      go_upto_region 4 with (fail)
      refine wp_alloc1 (A := y.list) fun W2 hU2 hs2 bX => ?_
      have rX := bX.get
      have rM := (HM.out.2.up (hU.out.trans hU2)).get
      clear rE rE0 hs2
      go_wp2_with fail
      refine (before_any m y _).mono ?_
      rintro e w3 ⟨rfl, hU3⟩
      have HU := Lib.hid ((hU.out.trans hU2).trans hU3)
      clear hU2 hU3 rX rM bX
      rcases hbf : befB m y with _ | _
      · have HB := Lib.hid hbf
        clear hbf
        go_wp2
        go_ret
        refine ⟨HM.out.1.trans HU.out, ret_bool ?_⟩
        unfold abvB
        symm
        rw [List.all_eq_false]
        exact ⟨y, List.mem_of_getElem? HE.out, by rw [HB.out]; simp⟩
      · have HB := Lib.hid hbf
        clear hbf
        go_wp2
        exact ⟨⟨i + 1, by omega, by go_num, HU, Lib.hid (fun j z hj hz => by
          rcases Nat.lt_or_ge j i with h1 | h1
          · exact hall.out j z h1 hz
          · have : j = i := by omega
            subst this
            rw [HE.out] at hz
            cases hz
            exact HB.out)⟩, by simp [intOf]; omega⟩
    · go_wp2
      go_ret
      refine ⟨HM.out.1.trans hU.out, ret_bool ?_⟩
      unfold abvB
      symm
      rw [List.all_eq_true]
      intro y hy
      obtain ⟨j, hj⟩ := List.getElem?_of_mem hy
      exact hall.out j y (by have := (List.getElem?_eq_some_iff.1 hj).1; omega) hj
end Go.Proofs.YtalmjdlcogdpmaaGreatDoor
