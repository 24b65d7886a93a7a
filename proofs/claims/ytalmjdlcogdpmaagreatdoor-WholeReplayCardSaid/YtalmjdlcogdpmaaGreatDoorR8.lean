/- Contracts and plain laws for the statement of this claim; no condition. Here: package calendar: the object in memory; none, New, Len, day; event.Place. package calendar: find (where none is found), first. package calendar: first. package calendar: the order of its days: plain. package calendar: First. package calendar: take of a day's first. package calendar: take of a day's first. package calendar: Pop. package ladder: behind, Len, find. package ladder: find, where there is none. package ladder: insert. A ladder of messages: plain. package calendar: Push: what it needs. -/
import Derived.Test.YtalmjdlcogdpmaaGreatDoorR7
import Derived.Test.YtalmjdlcogdpmaaGreatDoorR6
import Derived.Deep.Cut
import Derived.Deep.CutRange
import Derived.Test.YtalmjdlcogdpmaaGreatDoorR5
import Derived.WalkMore
set_option linter.unusedVariables false
set_option linter.unusedSimpArgs false

namespace Go.Proofs.YtalmjdlcogdpmaaGreatDoor
open Go.RowKit
attribute [local go_sem] upUpon_value upUpon_enter upUpon_skip upUpon_row ucUpon_value ucUpon_skip ucUpon_enter ucUpon_row

theorem run_map_nil0 {P : Program} (d : Nat) (t k e : TypeId) (b : Nat) (w : World) (h : P.underlying t = some (.map k e)) :
    (Op.equalIn (d + 1) t (.map (some b)) (.map none)).run P w = .ok false w := by
  simp [Op.equalIn, run_underlying h]
theorem run_map_nil {P : Program} (t k e : TypeId) (b : Nat) (w : World) (h : P.underlying t = some (.map k e)) :
    (binOp .eql t (.map (some b)) (.map none)).run P w = .ok (.bool false) w := by
  simp only [binOp]
  simp [show Op.equal t (.map (some b)) (.map none) = Op.equalIn (9999 + 1) t (.map (some b)) (.map none) from rfl, run_map_nil0 9999 t k e b w h]
/-- A calendar in memory. -/
structure CalIs (W : World) (q mb : Nat) (es : List (Int × Value)) (D : Int → List Msg) (n : Nat) : Prop where
  b : Blk W q [.int .i64 16, .map (some mb), .int .i64 n]
  m : MapIs W mb es
  r : ∀ e ∈ es, RowM W e.2 (D e.1)
  fz : ∀ j, W.frozen? ⟨q, j, none⟩ = false
  qb : q ≠ mb
  qr : ∀ e ∈ es, ¬ sameBlock e.2 q
  br : ∀ e ∈ es, ¬ sameBlock e.2 mb
def calFoot (q mb : Nat) (es : List (Int × Value)) (k : Nat) : Prop := k = q ∨ k = mb ∨ ∃ e ∈ es, sameBlock e.2 k
section
variable {W W' : World} {q b n : Nat} {es : List (Int × Value)} {D : Int → List Msg}
theorem CalIs.chg {S : Nat → Prop} (x : CalIs W q b es D n) (hc : Chg S W W') (hS : ∀ k, calFoot q b es k → ¬ S k) : CalIs W' q b es D n :=
  ⟨x.b.chg hc (hS q (.inl rfl)), x.m.chg hc (hS b (.inr (.inl rfl))), fun e he => (x.r e he).chgM hc fun k hk => hS k (.inr (.inr ⟨e, he, hk⟩)), fun j => (hc.marks _).trans (x.fz j), x.qb, x.qr, x.br⟩
theorem CalIs.up (x : CalIs W q b es D n) (hu : Up W W') : CalIs W' q b es D n := x.chg (S := fun _ => False) (.of_up hu) fun _ _ e => e
theorem CalIs.lt (x : CalIs W q b es D n) : ∀ k, calFoot q b es k → k < W.heap.size := fun k hk => by
  rcases hk with rfl | rfl | ⟨e, he, hk⟩
  · exact x.b.lt (by simp)
  · exact x.m.lt
  · exact OwnR.block_lt (x.r e he) k hk
end

set_option maxHeartbeats 1000000 in
theorem calnone_any (q b : Nat) (w : World) (hb : w.cell? ⟨q, 1, none⟩ = some (.map (some b))) : Calls Tryz.prog 139 #[.pointer (some ⟨q, 0, none⟩)] w fun e w' => e = .returned (.bool false) ∧ w' = w := by
  have hq : ∀ W : World, (binOp .eql 114 (.map (some b)) (.map none)).run Tryz.prog W = .ok (.bool false) W := fun W => run_map_nil (P := Tryz.prog) 114 _ _ b W Tryz.underlying114
  go_enter Tryz.func139, Tryz.ntmps139
  go_wp2
  go_ret
  exact ⟨rfl, rfl⟩
set_option maxHeartbeats 1000000 in
theorem calnew_any (w : World) : Calls Tryz.prog 34 #[.int .i64 16] w fun e w' => e = .returned (.tuple #[.pointer (some ⟨w.heap.size + 1, 0, none⟩), .int .i64 0]) ∧ Up w w' ∧ w'.heap.size = w.heap.size + 2 ∧ CalIs w' (w.heap.size + 1) w.heap.size [] (fun _ => []) 0 := by
  have hmm : ∀ W : World, (Instr.makeMap 114 none).run Tryz.prog W = .ok (.map (some W.heap.size)) (W.alloc (.map #[] 0)) := fun W => run_makeMap _ W
  go_enter Tryz.func34, Tryz.ntmps34
  go_wp2
  go_ret2
  have hU : Up w (w.alloc (.map #[] 0)) := ⟨⟨rfl, rfl, rfl, by simp, fun k hk => (MapKept.heap_alloc w _).2 k hk⟩, fun a => by
    by_cases h : a.block = w.heap.size
    · have e1 : (w.alloc (.map #[] 0)).heap[a.block]? = some (.map #[] 0) := by rw [h]; exact (MapKept.heap_alloc w _).1
      have e2 : w.heap[a.block]? = none := by rw [h]; simp
      simp [World.frozen?, e1, e2]
    · exact World.frozen?_alloc_old _ _ _ h⟩
  have bX := Blk.alloc (w.alloc (.map #[] 0)) [.int .i64 16, .map (some w.heap.size), .int .i64 0] 116
  rw [show (w.alloc (.map #[] 0)).heap.size = w.heap.size + 1 by simp] at bX
  have hU2 := alloc_up (w.alloc (.map #[] 0)) ([.int .i64 16, .map (some w.heap.size), .int .i64 0] : List Value).toArray 116
  exact ⟨by simp, hU.trans hU2, by simp, ⟨bX, (map_made w).chg (Chg.of_up (S := fun _ => False) hU2) id, fun e h => by simp at h, fun j => new_free w (.map #[] 0) (hU.trans hU2) j _ (by omega), by omega, fun e h => by simp at h, fun e h => by simp at h⟩⟩
set_option maxHeartbeats 1000000 in
theorem callen_any (q b : Nat) (es : List (Int × Value)) (D : Int → List Msg) (n : Nat) (w : World) (x : CalIs w q b es D n) : Calls Tryz.prog 136 #[.pointer (some ⟨q, 0, none⟩)] w fun e w' => e = .returned (.int .i64 n) ∧ w' = w := by
  have rq := x.b.get
  have h1 : w.cell? ⟨q, 1, none⟩ = some (.map (some b)) := x.b.at (i := 1) rfl
  go_enter Tryz.func136, Tryz.ntmps136
  go_wp2_with fail
  refine (calnone_any q b w h1).mono ?_
  rintro e w1 ⟨rfl, rfl⟩
  go_wp2
  go_ret
  exact ⟨rfl, rfl⟩
set_option maxHeartbeats 1000000 in
theorem calday_any (q : Nat) (t : Nat) (ht : t ≤ 2000000000) (w : World) (hb : w.cell? ⟨q, 0, none⟩ = some (.int .i64 16)) : Calls Tryz.prog 143 #[.pointer (some ⟨q, 0, none⟩), .int .i64 t] w fun e w' => e = .returned (.int .i64 (t / 16 : Nat)) ∧ w' = w := by
  go_enter Tryz.func143, Tryz.ntmps143
  go_wp2
  all_goals (go_ret; exact ⟨ret_int (by omega), rfl⟩)
set_option maxHeartbeats 1000000 in
theorem place1_any (y m : Msg) (p : Nat) (w : World) (hb : Blk w p m.list) : Calls Tryz.prog 146 #[y.val, .pointer (some ⟨p, 0, none⟩)] w fun e w' => Up w w' ∧ e = .returned (.bool (befB y m)) := by
  simp only [Msg.val]
  go_enter Tryz.func146, Tryz.ntmps146
  go_upto_region 1 with (fail)
  refine wp_alloc1 (A := y.list) fun W1 hU1 hs1 bY => ?_
  have rY := bY.get
  have rM := (hb.up hU1).get
  go_wp2_with fail
  refine (before_any y m _).mono ?_
  rintro e w3 ⟨rfl, hU3⟩
  clear rY rM
  go_wp2
  go_ret
  exact ⟨hU1.trans hU3, rfl⟩
abbrev placeF (p : Nat) : Value := .func (.func 146) #[] #[.pointer (some ⟨p, 0, none⟩)]
set_option maxRecDepth 100000 in
set_option maxHeartbeats 2000000 in
theorem count_any (v : Value) (L : List Msg) (m : Msg) (g0 : Nat) (w : World) (h : RowM w v L) (hb : Blk w g0 m.list) (hn : L.length ≤ 1000000) :
    Calls Tryz.prog 145 #[v, placeF g0] w fun e w' => Up w w' ∧ e = .returned (.int .i64 (L.countP fun x => befB x m)) := by
  obtain ⟨p, c, hv⟩ := OwnR.form h
  have H := Lib.hid (And.intro h (And.intro hv hb))
  clear h hb
  rw [hv]
  clear hv
  go_enter Tryz.func145, Tryz.ntmps145
  go_wp2_with fail
  go_loopw [5, 10] (fun n x wr => ∃ i : Nat, i ≤ L.length ∧ x = .int .i64 i ∧ n = .int .i64 ((L.take i).countP fun x => befB x m) ∧ Hid (Up w wr)) (fun _ x _ => L.length - (intOf x).toNat)
  case atStart => exact ⟨0, Nat.zero_le _, rfl, by simp, Lib.hid (Up.refl _)⟩
  case round =>
    obtain ⟨i, hi, rfl, rfl, hU⟩ := hrel
    by_cases hlt : i < L.length
    · obtain ⟨y, hy⟩ : ∃ y, L[i]? = some y := ⟨L[i], by simp [hlt]⟩
      obtain ⟨g, cap, hv, hbe⟩ := OwnR.atM (H.out.1.upM hU.out) hy
      have hpg : p = some ⟨g, 0, none⟩ := by have := H.out.2.1; rw [hv] at this; injection this with h1 _ _; exact h1.symm
      have hcc : c = cap := by have := H.out.2.1; rw [hv] at this; injection this with _ _ h1; exact h1.symm
      subst hpg hcc
      have rE := hbe.get
      have rE0 := hbe.zero
      have hcnt : (L.take (i + 1)).countP (fun x => befB x m) = (L.take i).countP (fun x => befB x m) + if befB y m then 1 else 0 := by
        rw [List.take_add_one, hy, List.countP_append]; simp [List.countP_cons]
      have hle : (L.take i).countP (fun x => befB x m) ≤ i := Nat.le_trans List.countP_le_length (by rw [List.length_take]; omega)
      obtain ⟨c0, hc0⟩ : ∃ c0, (L.take i).countP (fun x => befB x m) = c0 := ⟨_, rfl⟩
      rw [hc0] at hcnt hle ⊢
      have HE := Lib.hid (And.intro hy hcnt)
      clear hy hv hbe hcnt hc0
      go_upto_region 5 with (fail)
      refine wp_alloc1 (A := y.list) fun W2 hU2 hs2 bX => ?_
      have rX := bX.get
      clear rE rE0 hs2
      go_wp2_with fail
      refine (place1_any y m g0 _ (H.out.2.2.up (hU.out.trans hU2))).mono ?_
      rintro e w3 ⟨hU3, rfl⟩
      have HU := Lib.hid ((hU.out.trans hU2).trans hU3)
      clear hU2 hU3 rX bX
      rcases hbf : befB y m with _ | _
      · have HB := Lib.hid hbf
        clear hbf
        go_wp2
        exact ⟨⟨i + 1, by omega, by go_num, by rw [HE.out.2, HB.out]; simp, HU⟩, by simp [intOf]; omega⟩
      · have HB := Lib.hid hbf
        clear hbf
        go_wp2
        exact ⟨⟨i + 1, by omega, by go_num, by rw [HE.out.2, HB.out]; go_num, HU⟩, by simp [intOf]; omega⟩
    · have hie : i = L.length := by omega
      subst hie
      go_wp2
      go_ret
      refine ⟨hU.out, ret_int ?_⟩
      rw [List.take_length]
set_option maxRecDepth 100000 in
set_option maxHeartbeats 2000000 in
theorem place_any (v : Value) (L : List Msg) (m : Msg) (w : World) (h : RowM w v L) (hn : L.length ≤ 1000000) :
    Calls Tryz.prog 144 #[v, m.val] w fun e w' => Up w w' ∧ e = .returned (.int .i64 (L.countP fun x => befB x m)) := by
  have hmf : ∀ (fn : Fn) (first cap : Array Value) (w : World), (Instr.makeFunc fn first cap).run Tryz.prog w = .ok (.func fn first cap) w := fun _ _ _ _ => rfl
  simp only [Msg.val]
  go_enter Tryz.func144, Tryz.ntmps144
  go_upto_region 1 with (fail)
  refine wp_alloc1 (A := m.list) fun W1 hU1 hs1 bM => ?_
  go_wp2_with fail
  refine (count_any v L m _ W1 (h.upM hU1) bM hn).mono ?_
  rintro e w3 ⟨hU3, rfl⟩
  go_wp2
  go_ret
  exact ⟨hU1.trans hU3, rfl⟩
end Go.Proofs.YtalmjdlcogdpmaaGreatDoor

namespace Go.Proofs.YtalmjdlcogdpmaaGreatDoor
open Go.RowKit
attribute [local go_sem] upUpon_value upUpon_enter upUpon_skip upUpon_row ucUpon_value ucUpon_skip ucUpon_enter ucUpon_row

theorem Up.iter {w W W' : World} {r : Nat} (h : Up w W) (hc : Chg (· = r) W W') (hr : w.heap.size ≤ r) : Up w W' :=
  ((Chg.of_up (S := (· = r)) h).trans hc (fun _ _ e => e)).to_up fun k hk e => by omega
theorem RangeIs.up {W W' : World} {b r cnt : Nat} {es : List (Int × Value)} {left : Lit → Bool} (h : RangeIs W b r es left cnt) (hu : Up W W') : RangeIs W' b r es left cnt := RangeIs.chg (S := fun _ => False) h (.of_up hu) id id
set_option maxRecDepth 100000 in
set_option maxHeartbeats 2000000 in
theorem calfind_no (q b : Nat) (es : List (Int × Value)) (D : Int → List Msg) (n : Nat) (fr uid : Int) (w : World) (x : CalIs w q b es D n) (hlen : ∀ e ∈ es, (D e.1).length ≤ 1000000) (no : ∀ e ∈ es, ∀ m ∈ D e.1, ¬ (m.f = fr ∧ m.u = uid)) :
    Calls Tryz.prog 142 #[.pointer (some ⟨q, 0, none⟩), .int .i64 fr, .int .i64 uid] w fun e w' => Up w w' ∧ e = .returned (.tuple #[.int .i64 0, .int .i64 0, .bool false]) := by
  have rq := x.b.get
  have H := Lib.hid (And.intro x (And.intro hlen no))
  clear x hlen no
  go_enter Tryz.func142, Tryz.ntmps142
  go_wp2_with (first
    | (at_range; refine wpList_mapRange rfl _ rfl rfl H.out.1.m ?_; intro w0 hrg0 hU0 hs0)
    | go_in)
  go_frame
  clear rq
  have H0 := Lib.hid (And.intro hrg0 (And.intro hU0 hs0))
  obtain ⟨r, hr⟩ : ∃ r, w.heap.size = r := ⟨_, rfl⟩
  rw [hr] at H0 ⊢
  have HR := Lib.hid hr
  clear hrg0 hU0 hs0 hr
  go_loopw [6] (fun _ wr => ∃ (left : Lit → Bool) (cnt : Nat), Hid (RangeIs wr b r es left cnt) ∧ Hid (Up w wr)) (fun _ wr => wr.rangeLeft b r)
  case atStart => exact ⟨_, _, Lib.hid H0.out.1, Lib.hid H0.out.2.1⟩
  case round =>
    obtain ⟨left, cnt, hrg, hU⟩ := hrel
    go_wp2_with (first
      | (at_next; refine wpList_mapNext rfl _ rfl rfl hrg.out ?_ ?_)
      | go_in)
    · intro hl
      go_wp2
      go_ret3
      exact ⟨hU.out, rfl⟩
    · intro k v w1 cnt1 hmem hl hrg1 hlt hc1 hs1 hen
      have hU1 := Lib.hid (hU.out.iter hc1 (by rw [HR.out]; exact Nat.le_refl _))
      obtain ⟨p, c, hv⟩ := OwnR.form (H.out.1.r _ hmem)
      have hm1 : wr.rangeLeft b r = cnt := hrg.out.left_eq
      have H1 := Lib.hid (And.intro hrg1 (And.intro hmem (And.intro hlt (And.intro hm1 hv))))
      obtain ⟨L, hL⟩ : ∃ L, D k = L := ⟨_, rfl⟩
      have hv' : v = .slice p L.length c := by rw [← hL]; exact hv
      clear hv hmem hl hrg1 hlt hc1 hs1 hm1
      rw [hv'] at hen ⊢
      have HL := Lib.hid (And.intro hL hv')
      clear hL hv'
      go_wp2_with fail
      clear hen
      have key : ∀ wz : World, Up w1 wz → ∃ left' cnt', RangeIs wz b r es left' cnt' ∧ wz.rangeLeft b r < wr.rangeLeft b r := fun wz hz => by
        obtain ⟨h1, h2, h3, h4, h5⟩ := H1.out
        exact ⟨_, _, RangeIs.up h1 hz, by rw [World.ranges.left_eq (RangeIs.up h1 hz), h4]; exact h3⟩
      have KEY := Lib.hid key
      clear key
      go_loopw [25] (fun x wz => ∃ i : Nat, i ≤ L.length ∧ x = .int .i64 i ∧ Hid (Up w1 wz)) (fun x _ => L.length - (intOf x).toNat)
      case atStart => exact ⟨0, Nat.zero_le _, rfl, Lib.hid (Up.refl _)⟩
      case round =>
        obtain ⟨i, hi, rfl, hU2⟩ := hrel
        by_cases hlt : i < L.length
        · obtain ⟨y, hy⟩ : ∃ y, L[i]? = some y := ⟨L[i], by simp [hlt]⟩
          have row0 := (H.out.1.r _ H1.out.2.1).upM (hU1.out.trans hU2.out)
          simp only [HL.out.1] at row0
          obtain ⟨g, cap, hv, hbe⟩ := OwnR.atM row0 hy
          have hpg : p = some ⟨g, 0, none⟩ := by have := HL.out.2; rw [hv] at this; injection this with h1 _ _; exact h1.symm
          have hcc : c = cap := by have := HL.out.2; rw [hv] at this; injection this with _ _ h1; exact h1.symm
          subst hpg hcc
          have rE := hbe.get
          have rE0 := hbe.zero
          have hno : ¬ (y.f = fr ∧ y.u = uid) := H.out.2.2 _ H1.out.2.1 y (by rw [HL.out.1]; exact List.mem_of_getElem? hy)
          clear hy hv hbe row0
          go_upto_region 7 with (fail)
          refine wp_alloc1 (A := y.list) fun W2 hU3 hs2 bX => ?_
          have rX := bX.get
          have HU := Lib.hid (hU2.out.trans hU3)
          clear rE rE0 hs2 bX hU3
          have hLn := H.out.2.1 _ H1.out.2.1
          simp only [HL.out.1] at hLn
          go_cut [40] from 30 to 40 (fun v wx => v = .bool false ∧ Hid (Up w1 wx))
          case first =>
            by_cases hf : y.f = fr
            · have hu : ¬ y.u = uid := fun e => hno ⟨hf, e⟩
              have hd1 : (y.f == fr) = true := by rw [beq_iff_eq]; exact hf
              have hd2 : (y.u == uid) = false := by rw [beq_eq_false_iff_ne]; exact hu
              clear hf hu hno
              go_wp2
              go_meet
              case rel => exact ⟨rfl, HU⟩
            · have hd1 : (y.f == fr) = false := by rw [beq_eq_false_iff_ne]; exact hf
              clear hf hno
              go_wp2
              go_meet
              case rel => exact ⟨rfl, HU⟩
          case rest =>
            obtain ⟨rfl, HU⟩ := hcut
            clear rX hno
            go_wp2
            exact ⟨⟨i + 1, by omega, by go_num, HU⟩, by simp [intOf]; omega⟩
        · have hie : i = L.length := by omega
          subst hie
          go_wp2
          obtain ⟨l', c', h1, h2⟩ := KEY.out _ hU2.out
          exact ⟨⟨l', c', Lib.hid h1, Lib.hid (hU1.out.trans hU2.out)⟩, h2⟩
end Go.Proofs.YtalmjdlcogdpmaaGreatDoor

namespace Go.Proofs.YtalmjdlcogdpmaaGreatDoor
open Go.RowKit
attribute [local go_sem] upUpon_value upUpon_enter upUpon_skip upUpon_row ucUpon_value ucUpon_skip ucUpon_enter ucUpon_row

/-- The least key. -/
def IsLeast (es : List (Int × Value)) (k : Int) : Prop := ∃ v, (k, v) ∈ es ∧ ∀ e ∈ es, k ≤ e.1
theorem mem_int {P : Prop} {left : Lit → Bool} {k k' : Int} (h : (left (.int .i64 k') && !(Lit.int .i64 k').sameKey (.int .i64 k)) = true ∨ P) : (left (.int .i64 k') = true ∧ k' ≠ k) ∨ P := by
  rw [same_key] at h
  simpa using h
set_option maxRecDepth 100000 in
set_option maxHeartbeats 2000000 in
theorem calleast_any (q b : Nat) (es : List (Int × Value)) (D : Int → List Msg) (n : Nat) (w : World) (x : CalIs w q b es D n) :
    Calls Tryz.prog 140 #[.pointer (some ⟨q, 0, none⟩)] w fun e w' => Up w w' ∧ ∃ k, e = .returned (.int .i64 k) ∧ (es ≠ [] → IsLeast es k) := by
  have rq := x.b.get
  have H := Lib.hid x
  clear x
  go_enter Tryz.func140, Tryz.ntmps140
  go_wp2_with (first
    | (at_range; refine wpList_mapRange rfl _ rfl rfl H.out.m ?_; intro w0 hrg0 hU0 hs0)
    | go_in)
  go_frame
  clear rq
  obtain ⟨r, hr⟩ : ∃ r, w.heap.size = r := ⟨_, rfl⟩
  rw [hr] at hrg0 hs0 ⊢
  have H0 := Lib.hid (And.intro hrg0 (And.intro hU0 (And.intro hs0 hr)))
  clear hrg0 hU0 hs0 hr
  go_loopw [3, 4] (fun x y wr => ∃ (left : Lit → Bool) (cnt : Nat) (a : Int) (s : Bool), x = .int .i64 a ∧ y = .bool s ∧ Hid (RangeIs wr b r es left cnt) ∧ Hid (Up w wr) ∧ Hid (s = true → ∃ v, (a, v) ∈ es) ∧ Hid (∀ e ∈ es, left (.int .i64 e.1) = true ∨ (s = true ∧ a ≤ e.1))) (fun _ _ wr => wr.rangeLeft b r)
  case atStart => exact ⟨_, _, _, _, rfl, rfl, Lib.hid H0.out.1, Lib.hid H0.out.2.1, Lib.hid (fun h => by cases h), Lib.hid (fun e he => .inl (has_es he))⟩
  case round =>
    obtain ⟨left, cnt, a, s, rfl, rfl, hrg, hU, hs, hall⟩ := hrel
    go_wp2_with (first
      | (at_next; refine wpList_mapNext rfl _ rfl rfl hrg.out ?_ ?_)
      | go_in)
    · intro hl
      have HL := Lib.hid hl
      clear hl
      go_wp2
      go_ret
      refine ⟨hU.out, a, rfl, fun hne => ?_⟩
      obtain ⟨e, he⟩ := List.exists_mem_of_ne_nil _ hne
      have hst : s = true := by
        rcases hall.out e he with h1 | h1
        · rw [HL.out] at h1; cases h1
        · exact h1.1
      obtain ⟨v, hv⟩ := hs.out hst
      exact ⟨v, hv, fun e he => by
        rcases hall.out e he with h1 | h1
        · rw [HL.out] at h1; cases h1
        · exact h1.2⟩
    · intro k v w1 cnt1 hmem hl hrg1 hlt hc1 hs1 hen
      have hU1 := Lib.hid (hU.out.iter hc1 (by rw [H0.out.2.2.2]; exact Nat.le_refl _))
      have hm : w1.rangeLeft b r < wr.rangeLeft b r := by rw [World.ranges.left_eq hrg1, World.ranges.left_eq hrg.out]; exact hlt
      have H1 := Lib.hid (And.intro hrg1 (And.intro hmem hm))
      clear hmem hl hrg1 hlt hc1 hs1 hm
      have taken : (s = true → k < a) → Hid (∀ e ∈ es, (left (.int .i64 e.1) && !(Lit.int .i64 e.1).sameKey (.int .i64 k)) = true ∨ (true = true ∧ k ≤ e.1)) := fun hka => Lib.hid fun e he => by
        by_cases hk : e.1 = k
        · exact .inr ⟨rfl, by omega⟩
        · rcases hall.out e he with h1 | h1
          · left; rw [same_key]; simp [h1, hk]
          · right; have := hka h1.1; exact ⟨rfl, by omega⟩
      have kept : a ≤ k → s = true → Hid (∀ e ∈ es, (left (.int .i64 e.1) && !(Lit.int .i64 e.1).sameKey (.int .i64 k)) = true ∨ (s = true ∧ a ≤ e.1)) := fun hka hst => Lib.hid fun e he => by
        by_cases hk : e.1 = k
        · exact .inr ⟨hst, by omega⟩
        · rcases hall.out e he with h1 | h1
          · left; rw [same_key]; simp [h1, hk]
          · exact .inr h1
      clear hall
      cases s
      · have ht := taken (fun h => by cases h)
        clear taken kept
        go_wp2
        exact ⟨⟨_, _, k, true, rfl, rfl, Lib.hid H1.out.1, hU1, Lib.hid (fun _ => ⟨v, H1.out.2.1⟩), ht⟩, H1.out.2.2⟩
      · by_cases hka : k < a
        · have ht := taken (fun _ => hka)
          clear taken kept
          go_wp2
          exact ⟨⟨_, _, k, true, rfl, rfl, Lib.hid H1.out.1, hU1, Lib.hid (fun _ => ⟨v, H1.out.2.1⟩), ht⟩, H1.out.2.2⟩
        · have ht := kept (by omega) rfl
          clear taken kept
          go_wp2
          exact ⟨⟨_, _, a, true, rfl, rfl, Lib.hid H1.out.1, hU1, hs, ht⟩, H1.out.2.2⟩
end Go.Proofs.YtalmjdlcogdpmaaGreatDoor

namespace Go.Proofs.YtalmjdlcogdpmaaGreatDoor

def calAll (es : List (Int × Value)) (D : Int → List Msg) : List Msg := es.flatMap fun e => D e.1
structure CalO (es : List (Int × Value)) (D : Int → List Msg) (n : Nat) : Prop where
  ne : ∀ e ∈ es, D e.1 ≠ []
  srt : ∀ e ∈ es, Srt (D e.1) 0 (D e.1).length
  key : ∀ e ∈ es, ∀ m ∈ D e.1, ∃ t : Nat, m.t = t ∧ e.1 = ((t / 16 : Nat) : Int)
  tot : n = (calAll es D).length
theorem mem_calAll {es : List (Int × Value)} {D : Int → List Msg} {x : Msg} : x ∈ calAll es D ↔ ∃ e ∈ es, x ∈ D e.1 := by simp [calAll]
section
variable {es es' : List (Int × Value)} {D : Int → List Msg} {n : Nat} {k : Int}
theorem IsLeast.one {k' : Int} (h : IsLeast es k) (h' : IsLeast es k') : k' = k := by
  obtain ⟨v, h1, h2⟩ := h
  obtain ⟨v', h3, h4⟩ := h'
  have a := h2 _ h3
  have b := h4 _ h1
  simp at a b
  omega
theorem IsLeast.ex : ∀ es : List (Int × Value), es ≠ [] → ∃ k, IsLeast es k
  | [], h => absurd rfl h
  | [e], _ => ⟨e.1, e.2, by simp, fun x hx => by simp at hx; rw [hx]; exact Int.le_refl _⟩
  | e :: f :: r, _ => by
    obtain ⟨k, v, h1, h2⟩ := IsLeast.ex (f :: r) (by simp)
    by_cases h : e.1 ≤ k
    · exact ⟨e.1, e.2, by simp, fun x hx => by
        rcases List.mem_cons.1 hx with rfl | hx
        · exact Int.le_refl _
        · have := h2 x hx; omega⟩
    · exact ⟨k, v, List.mem_cons_of_mem _ h1, fun x hx => by
        rcases List.mem_cons.1 hx with rfl | hx
        · omega
        · exact h2 x hx⟩
theorem CalO.least (o : CalO es D n) (h : IsLeast es k) {m : Msg} {r : List Msg} (hm : D k = m :: r) : ∀ x ∈ calAll es D, befB x m = false := by
  intro x hx
  obtain ⟨e, he, hx⟩ := mem_calAll.1 hx
  obtain ⟨v, hv, hl⟩ := h
  have hk := hl e he
  by_cases hek : e.1 = k
  · have hs := o.srt e he
    rw [hek, hm] at hs hx
    obtain ⟨j, hj⟩ := List.getElem?_of_mem hx
    rcases j with _ | j
    · cases hj; exact befB_irrefl _
    · exact hs 0 (j + 1) m x (Nat.le_refl _) (by omega) (List.getElem?_eq_some_iff.1 hj).1 rfl hj
  · obtain ⟨t, h1, h2⟩ := o.key e he x hx
    obtain ⟨u, h3, h4⟩ := o.key _ hv m (by simp only [hm]; simp)
    simp only at h4
    rw [befB_not]
    omega
theorem len_le (o : CalO es D n) : ∀ e ∈ es, (D e.1).length ≤ n := fun e he => by
  rw [o.tot]
  obtain ⟨a, b, rfl⟩ := List.append_of_mem he
  simp [calAll]
  omega
theorem es_le (o : CalO es D n) : es.length ≤ n := by
  rw [o.tot]
  have h := o.ne
  clear o
  induction es with
  | nil => simp
  | cons e r ih =>
    have h1 : 0 < (D e.1).length := List.length_pos_iff.2 (h e (by simp))
    have h2 := ih (fun x hx => h x (by simp [hx]))
    simp [calAll] at h2 ⊢
    omega
theorem CalO.nil_iff (o : CalO es D n) : n = 0 ↔ es = [] := by
  constructor
  · intro h
    have := es_le o
    exact List.eq_nil_of_length_eq_zero (by omega)
  · rintro rfl
    exact o.tot

/-- A day's list put anew. -/
def updD (D : Int → List Msg) (k : Int) (L : List Msg) : Int → List Msg := fun x => if x = k then L else D x
def restD (es : List (Int × Value)) (k : Int) : List (Int × Value) := es.filter fun p => !decide (p.1 = k)
theorem restD_mem {e : Int × Value} : e ∈ restD es k ↔ e ∈ es ∧ e.1 ≠ k := by simp [restD]
theorem all_rest_upd (L : List Msg) : calAll (restD es k) (updD D k L) = calAll (restD es k) D := by
  have h : ∀ l : List (Int × Value), (∀ e ∈ l, e.1 ≠ k) → calAll l (updD D k L) = calAll l D := fun l => by
    induction l with
    | nil => intro _; rfl
    | cons e r ih =>
      intro h
      have h1 := ih (fun x hx => h x (by simp [hx]))
      simp only [calAll, List.flatMap_cons] at h1 ⊢
      rw [h1]
      simp [updD, h e (by simp)]
  exact h _ fun e he => (restD_mem.1 he).2
/-- What stands at a key: the row and its list. -/
def Old (es : List (Int × Value)) (D : Int → List Msg) (k : Int) (v : Value) (L : List Msg) : Prop := ((k, v) ∈ es ∧ L = D k) ∨ ((∀ e ∈ es, e.1 ≠ k) ∧ v = .slice none 0 0 ∧ L = [])
theorem old_get (es : List (Int × Value)) (D : Int → List Msg) (k : Int) : ∃ L, Old es D k (mget es k) L := by
  unfold mget
  cases h : es.find? (fun p => decide (p.1 = k)) with
  | none => exact ⟨[], .inr ⟨fun e he => by simpa using List.find?_eq_none.1 h e he, rfl, rfl⟩⟩
  | some p =>
    have h1 := List.mem_of_find?_eq_some h
    have h2 := List.find?_some h
    simp only [decide_eq_true_eq] at h2
    obtain ⟨p1, p2⟩ := p
    subst h2
    exact ⟨_, .inl ⟨h1, rfl⟩⟩
theorem get_mem (hk : es.Pairwise (fun p q => p.1 ≠ q.1)) {v : Value} (h : (k, v) ∈ es) : mget es k = v := by
  unfold mget
  induction es with
  | nil => simp at h
  | cons e r ih =>
    obtain ⟨h1, h2⟩ := List.pairwise_cons.1 hk
    rcases List.mem_cons.1 h with rfl | h
    · simp
    · have : e.1 ≠ k := h1 _ h
      rw [List.find?_cons_of_neg (by simpa using this)]
      exact ih h2 h
theorem all_split (hk : es.Pairwise (fun p q => p.1 ≠ q.1)) {v : Value} {L : List Msg} (h : Old es D k v L) : (calAll es D).Perm (L ++ calAll (restD es k) D) := by
  rcases h with ⟨h, rfl⟩ | ⟨h, _, rfl⟩
  · induction es with
    | nil => simp at h
    | cons e r ih =>
      obtain ⟨h1, h2⟩ := List.pairwise_cons.1 hk
      rcases List.mem_cons.1 h with rfl | h
      · have hr : restD ((k, v) :: r) k = r := by
          unfold restD
          rw [List.filter_cons_of_neg (by simp), List.filter_eq_self.2 (fun e he => by have := h1 e he; simp at this ⊢; exact fun e => this e.symm)]
        rw [hr]
        simp [calAll]
      · have hr : restD (e :: r) k = e :: restD r k := by
          unfold restD
          rw [List.filter_cons_of_pos (by have := h1 _ h; simpa using this)]
        rw [hr]
        have h3 := ih h2 h
        simp only [calAll, List.flatMap_cons] at h3 ⊢
        exact (h3.append_left _).trans (by
          rw [← List.append_assoc, ← List.append_assoc]
          exact List.perm_append_comm.append_right _)
  · rw [show restD es k = es from List.filter_eq_self.2 (fun e he => by simpa using h e he)]
    exact List.Perm.refl _
theorem all_put {v : Value} (L : List Msg) (hp : es'.Perm ((k, v) :: restD es k)) : (calAll es' (updD D k L)).Perm (L ++ calAll (restD es k) D) := by
  have h1 : (calAll es' (updD D k L)).Perm (calAll ((k, v) :: restD es k) (updD D k L)) := hp.flatMap_right _
  refine h1.trans ?_
  rw [show calAll ((k, v) :: restD es k) (updD D k L) = updD D k L k ++ calAll (restD es k) (updD D k L) from rfl, all_rest_upd]
  simp [updD]
/-- A day's list changed. -/
theorem CalO.put {v : Value} {L : List Msg} {n' : Nat} (o : CalO es D n) (hp : es'.Perm ((k, v) :: restD es k)) (hn : L ≠ []) (hs : Srt L 0 L.length) (hk : ∀ m ∈ L, ∃ t : Nat, m.t = t ∧ k = ((t / 16 : Nat) : Int)) (ht : n' = (L ++ calAll (restD es k) D).length) : CalO es' (updD D k L) n' := by
  have hm : ∀ e ∈ es', e = (k, v) ∨ (e ∈ es ∧ e.1 ≠ k) := fun e he => by
    rcases List.mem_cons.1 (hp.mem_iff.1 he) with h | h
    · exact .inl h
    · exact .inr (restD_mem.1 h)
  refine ⟨fun e he => ?_, fun e he => ?_, fun e he => ?_, by rw [ht]; exact (all_put L hp).length_eq.symm⟩
  all_goals rcases hm e he with rfl | ⟨h1, h2⟩
  · simpa [updD] using hn
  · simpa [updD, h2] using o.ne e h1
  · simpa [updD] using hs
  · simpa [updD, h2] using o.srt e h1
  · simpa [updD] using hk
  · simpa [updD, h2] using o.key e h1
theorem CalO.del {n' : Nat} (o : CalO es D n) (ht : n' = (calAll (restD es k) D).length) : CalO (restD es k) D n' :=
  ⟨fun e he => o.ne e (restD_mem.1 he).1, fun e he => o.srt e (restD_mem.1 he).1, fun e he => o.key e (restD_mem.1 he).1, ht⟩
end
end Go.Proofs.YtalmjdlcogdpmaaGreatDoor

namespace Go.Proofs.YtalmjdlcogdpmaaGreatDoor
open Go.RowKit
attribute [local go_sem] upUpon_value upUpon_enter upUpon_skip upUpon_row ucUpon_value ucUpon_skip ucUpon_enter ucUpon_row

theorem calleast_at (q b : Nat) (es : List (Int × Value)) (D : Int → List Msg) (n : Nat) (k : Int) (hk : IsLeast es k) (w : World) (x : CalIs w q b es D n) :
    Calls Tryz.prog 140 #[.pointer (some ⟨q, 0, none⟩)] w fun e w' => e = .returned (.int .i64 k) ∧ Up w w' :=
  (calleast_any q b es D n w x).mono fun e w' h => by
    obtain ⟨h1, k', h2, h3⟩ := h
    have hne : es ≠ [] := by obtain ⟨v, h, _⟩ := hk; exact fun e => by rw [e] at h; simp at h
    exact ⟨by rw [h2, hk.one (h3 hne)], h1⟩
theorem key_wf {es : List (Int × Value)} {D : Int → List Msg} {n : Nat} {k : Int} {v : Value} (o : CalO es D n) (h : (k, v) ∈ es) (hb : ∀ m ∈ calAll es D, m.t ≤ 2000000000) : ∃ t : Nat, k = t ∧ t ≤ 2000000000 ∧ (Lit.int .i64 k).wf = true := by
  obtain ⟨m, hm⟩ := List.exists_mem_of_ne_nil _ (o.ne _ h)
  obtain ⟨t, h1, h2⟩ := o.key _ h m hm
  have h3 := hb m (mem_calAll.2 ⟨_, h, hm⟩)
  simp only at h2
  have h4 : (0 : Int) ≤ k ∧ k ≤ 2000000000 := by omega
  exact ⟨t / 16, h2, by omega, WalkArith.wf_i64 (by omega)⟩
set_option maxRecDepth 100000 in
set_option maxHeartbeats 2000000 in
theorem calfirst_any (q b : Nat) (es : List (Int × Value)) (D : Int → List Msg) (n : Nat) (w : World) (x : CalIs w q b es D n) (o : CalO es D n) (hb : ∀ m ∈ calAll es D, m.t ≤ 2000000000) (hn : n ≤ 1000000) :
    Calls Tryz.prog 135 #[.pointer (some ⟨q, 0, none⟩)] w fun e w' => Up w w' ∧ ((es = [] ∧ FirstSays [] e) ∨ ∃ k m r, IsLeast es k ∧ D k = m :: r ∧ FirstSays (m :: r) e) := by
  have H := Lib.hid (And.intro x (And.intro o (And.intro hb hn)))
  clear x o hb hn
  go_enter Tryz.func135, Tryz.ntmps135
  go_upto_region 1 with (fail)
  refine wp_alloc1 (A := zeroMsg.list) fun W1 hU1 hs1 bR => ?_
  have X1 := Lib.hid (And.intro (H.out.1.up hU1) (And.intro hU1 (And.intro bR hs1)))
  clear hU1 hs1 bR
  go_wp2_with fail
  refine (calnone_any q b W1 (X1.out.1.b.at (i := 1) rfl)).mono ?_
  rintro e w2 ⟨rfl, rfl⟩
  have rq := X1.out.1.b.get
  have hF : ∀ j, w2.frozen? ⟨w.heap.size, j, none⟩ = false := fun j => new_free w (.map #[] 0) X1.out.2.1 j _ (Nat.le_refl _)
  have rR := X1.out.2.2.1.get
  simp only [zeroMsg, Msg.list] at rR
  by_cases hes : es = []
  · have hn0 : n = 0 := (CalO.nil_iff H.out.2.1).2 hes
    subst hn0
    have bR2 := Blk.sets zeroMsg.list 0 X1.out.2.2.1 (by simp [zeroMsg])
    have hU2 : Up w (w2.setCells w.heap.size 0 zeroMsg.list) := (Chg.setCells (S := (· = w.heap.size)) (Or.inl rfl) zeroMsg.list 0 (Chg.of_up X1.out.2.1)).to_up fun k hk e => by omega
    have HS := Lib.hid (And.intro bR2 (And.intro hU2 hes))
    clear bR2 hU2 hes
    go_wp2
    exact bodyPost_ret (w := w2.setCells w.heap.size 0 zeroMsg.list) (results_blk_tmp rfl rfl HS.out.1 Tryz.underlying43 rfl infoMsgN) rfl ⟨HS.out.2.1, .inl ⟨HS.out.2.2, .inl ⟨rfl, rfl⟩⟩⟩
  · have hn0 : n ≠ 0 := fun h => hes ((CalO.nil_iff H.out.2.1).1 h)
    obtain ⟨k, hk⟩ := IsLeast.ex es hes
    obtain ⟨v, hv, hl⟩ := id hk
    obtain ⟨m, r, hD⟩ : ∃ m r, D k = m :: r := by
      cases h : D k with
      | nil => exact absurd h (H.out.2.1.ne _ hv)
      | cons m r => exact ⟨m, r, rfl⟩
    obtain ⟨t, hkt, ht, hwf⟩ := key_wf H.out.2.1 hv H.out.2.2.1
    have row := X1.out.1.r _ hv
    simp only [hD] at row
    obtain ⟨g, cap, hvv, hbe⟩ := OwnR.atM row (i := 0) (m := m) rfl
    rw [Nat.zero_mul] at hbe
    subst hvv
    have hget := get_mem X1.out.1.m.keys hv
    have klk : ∀ W, Up w2.drew W → (Instr.lookup 114 (.map (some b)) (.int .i64 k) false).run Tryz.prog W = .ok (slc g (m :: r).length cap) W := fun W hW => by
      rw [map_lookup (MapIs.chg (S := fun _ => False) X1.out.1.m (.of_up (up_drew.trans hW)) id) hwf, hget]
    obtain ⟨N, hN⟩ : ∃ N, (m :: r).length = N := ⟨_, rfl⟩
    rw [hN] at klk
    have hN1 : 0 < N := by rw [← hN]; simp
    have kE := hbe.blk0.lift
    have kq := X1.out.1.b.lift
    have hd : ((n : Int) == 0) = false := by rw [beq_eq_false_iff_ne]; omega
    have HK := Lib.hid (And.intro hk hD)
    clear hk hv hl hD hkt ht hwf row hbe hget hN hes hn0
    go_upto_region 5 with (fail)
    clear rR rq hF
    refine region_upL0 [0, 1, 2, 3, 4, 5, 6, 7, 8] [] 9 [10] (by kernel_rfl) (by kernel_rfl) ?_
    simp only [getOps, List.getElem?_cons_zero, List.getElem?_cons_succ]
    iterate 5 (apply wpUp_step rfl rfl; (focus (intro W hU; go_simp; exact ⟨rfl, Up.refl _⟩)); go_simp)
    (apply wpUp_step rfl rfl; (focus (intro W hU; go_simp; exact calleast_at q b es D n k HK.out.1 W (X1.out.1.up (up_drew.trans hU)))); go_simp)
    iterate 3 (apply wpUp_step rfl rfl; (focus (intro W hU; go_simp; exact ⟨rfl, Up.refl _⟩)); go_simp)
    refine wpUp_nil fun W3 hW3 => ?_
    refine wpNew_nil fun W4 hW4 => ?_
    clear kE kq klk
    have hU4 := (up_drew.trans hW3).trans hW4
    have bR4 := X1.out.2.2.1.up hU4
    have hU04 := X1.out.2.1.trans hU4
    have rR := bR4.get
    simp only [zeroMsg, Msg.list] at rR
    have hF : ∀ j, W4.frozen? ⟨w.heap.size, j, none⟩ = false := fun j => new_free w (.map #[] 0) hU04 j _ (Nat.le_refl _)
    have bR5 := Blk.sets m.list 0 bR4 (by simp [zeroMsg])
    have hU5 : Up w (W4.setCells w.heap.size 0 m.list) := (Chg.setCells (S := (· = w.heap.size)) (Or.inl rfl) m.list 0 (Chg.of_up hU04)).to_up fun k hk e => by omega
    have HS := Lib.hid (And.intro bR5 hU5)
    clear bR4 bR5 hU5 hU04 hU4 hW3 hW4
    go_wp2
    exact bodyPost_ret (w := W4.setCells w.heap.size 0 m.list) (results_blk_tmp rfl rfl HS.out.1 Tryz.underlying43 rfl infoMsgN) rfl ⟨HS.out.2, .inr ⟨k, m, r, HK.out.1, HK.out.2, .inr ⟨m, rfl, rfl⟩⟩⟩
end Go.Proofs.YtalmjdlcogdpmaaGreatDoor

namespace Go.Proofs.YtalmjdlcogdpmaaGreatDoor
open Go.RowKit
attribute [local go_sem] upUpon_value upUpon_enter upUpon_skip upUpon_row ucUpon_value ucUpon_skip ucUpon_enter ucUpon_row

/-- append to an empty slice that has no room. -/
theorem wpNew_append0 {ops : Array Oper} {rest : List Oper} {o : Oper} {a : Act} {w : World} {K : List Msg} {Q : Act → World → Prop} (hgd : o.guard = none) (s x : Operand) (ho : o.op = .call { callee := .builtin .append, args := #[s, x], argTypes := #[39, 39] })
    (g : Nat) (hs : a.eval s = slc g 0 0) (ad : Addr) (c : Nat) (hx : a.eval x = .slice (some ad) K.length c) (hk : ∀ j u, (msgCells K)[j]? = some u → w.cell? (ad.add j) = some u) (hn : K.length ≤ 2000000) (h0 : 0 < K.length)
    (h : ∀ v' W', Up w W' → RowM W' v' K → (∀ k, sameBlock v' k → w.heap.size ≤ k) → wpNew upPre Tryz.prog ops Q rest (a.put o.dst v') W') : wpNew upPre Tryz.prog ops Q (o :: rest) a w := by
  obtain ⟨i0, hi0, hz0, hz1, hz2⟩ := info_parts infoMsg
  have hl := msgCells_length K
  refine wpNew_step hgd fun W hW K' hK' => ?_
  have hr := run_append_grow (P := Tryz.prog) W 39 o.type 43 i0 _ Tryz.underlying39 hi0 hz0 ⟨g, 0, none⟩ 0 0 [] (by simp) (fun j u hj => by simp at hj) ad K.length c (msgCells K) (by rw [hz1]; exact hl) (fun j u hj => cell_up hW (hk j u hj)) (by omega) (by omega) (growslice_fits (by omega) (by rw [hz2]; omega))
  have hge := grownCap_ge W (0 + K.length) 0 43
  have hcm : grownCap W (0 + K.length) 0 43 ≤ maxLen := grownCap_le_maxLen W (0 + K.length) 0 43 (by unfold maxLen; omega)
  have hU : ∀ c : Array Value, Up W (W.drew.alloc (.cells c 43)) := fun c => up_drew.trans (alloc_up _ _ _)
  obtain ⟨v2, W2, hr2, hrow, hUp, hnew⟩ : ∃ v2 W2, (Builtin.append_ #[39, 39] o.type #[slc g 0 0, .slice (some ad) K.length c]).run Tryz.prog W = .ok v2 W2 ∧ RowM W2 v2 K ∧ Up W W2 ∧ (∀ k, sameBlock v2 k → W.heap.size ≤ k) := by
    refine ⟨_, _, hr, ?_, hU _, fun k hk => ?_⟩
    · refine ⟨hl, .inr ⟨W.heap.size, grownCap W (0 + K.length) 0 43, _, by simp only [Nat.zero_add], heap_alloc_new W.drew _, by simpa using hge, hcm, ?_, ?_⟩⟩
      · simp only [Array.size_append, List.size_toArray, size_zeroCells, List.length_append, List.length_nil, hl, Nat.zero_add] at hge ⊢
        show _ ≤ K.length * 7 + (grownCap W K.length 0 43 - K.length) * 7
        omega
      · simp only [Array.toList_append, List.nil_append]
        rw [← hl]
        exact List.take_left
    · simp [sameBlock, Value.ownBlock] at hk
      omega
  have : (execOp a.eval o).run Tryz.prog W = .ok (.value v2) W2 := by
    unfold execOp
    simp only [ho, resolve, invoke, builtin, Sem.run_bind, Sem.run_pure, Result.andThen_ok, List.map_toArray, List.map_cons, List.map_nil, hs, hx, hr2]
  rw [this, ucUpon_value]
  exact ⟨hUp, hK' _ _ (h _ _ (hW.trans hUp) hrow fun k hk => Nat.le_trans hW.1.size (hnew k hk))⟩
end Go.Proofs.YtalmjdlcogdpmaaGreatDoor

namespace Go.Proofs.YtalmjdlcogdpmaaGreatDoor
open Go.RowKit
attribute [local go_sem] upUpon_value upUpon_enter upUpon_skip upUpon_row ucUpon_value ucUpon_skip ucUpon_enter ucUpon_row

/-- What a change of a calendar leaves: of what was there only its block and its map have turned. -/
structure CalTo (w w' : World) (q b : Nat) (es : List (Int × Value)) (es' : List (Int × Value)) (D' : Int → List Msg) (n' : Nat) : Prop where
  is : CalIs w' q b es' D' n'
  o : CalO es' D' n'
  chg : Chg (fun j => j = q ∨ j = b) w w'
  foot : ∀ j, calFoot q b es' j → calFoot q b es j ∨ w.heap.size ≤ j
section
variable {W W' w' : World} {q b n n' : Nat} {es es' : List (Int × Value)} {D : Int → List Msg} {k : Int} {v v' : Value} {L' : List Msg}
theorem foot_put {B : Nat} (hp : es'.Perm ((k, v') :: restD es k)) (hv : ∀ j, sameBlock v' j → B ≤ j) : ∀ j, calFoot q b es' j → calFoot q b es j ∨ B ≤ j := fun j hj => by
  rcases hj with h | h | ⟨e, he, h⟩
  · exact .inl (.inl h)
  · exact .inl (.inr (.inl h))
  · rcases List.mem_cons.1 (hp.mem_iff.1 he) with rfl | h'
    · exact .inr (hv j h)
    · exact .inl (.inr (.inr ⟨e, (restD_mem.1 h').1, h⟩))
theorem foot_del : ∀ j, calFoot q b (restD es k) j → calFoot q b es j := fun j hj => by
  rcases hj with h | h | ⟨e, he, h⟩
  · exact .inl h
  · exact .inr (.inl h)
  · exact .inr (.inr ⟨e, (restD_mem.1 he).1, h⟩)
theorem CalTo.put (x : CalIs W q b es D n) (o : CalO es (D) n) (hp : es'.Perm ((k, v') :: restD es k)) (hm : MapIs w' b es') (hr : RowM w' v' L') (hc : Chg (fun j => j = q ∨ j = b) W w')
    (hb : Blk w' q [.int .i64 16, .map (some b), .int .i64 n']) (hv : ∀ j, sameBlock v' j → W.heap.size ≤ j) (o' : CalO es' (updD D k L') n') : CalTo W w' q b es es' (updD D k L') n' := by
  have hl := x.lt
  have hm' : ∀ e ∈ es', e = (k, v') ∨ (e ∈ es ∧ e.1 ≠ k) := fun e he => by
    rcases List.mem_cons.1 (hp.mem_iff.1 he) with h | h
    · exact .inl h
    · exact .inr (restD_mem.1 h)
  refine ⟨⟨hb, hm, fun e he => ?_, fun j => (hc.marks _).trans (x.fz j), x.qb, fun e he => ?_, fun e he => ?_⟩, o', hc, fun j hj => ?_⟩
  · rcases hm' e he with rfl | ⟨h1, h2⟩
    · simpa [updD] using hr
    · simpa [updD, h2] using (x.r e h1).chgM hc (fun j hj hs => by rcases hs with rfl | rfl; exact x.qr e h1 hj; exact x.br e h1 hj)
  · rcases hm' e he with rfl | ⟨h1, h2⟩
    · intro h; have := hv q h; have := hl q (.inl rfl); omega
    · exact x.qr e h1
  · rcases hm' e he with rfl | ⟨h1, h2⟩
    · intro h; have := hv b h; have := hl b (.inr (.inl rfl)); omega
    · exact x.br e h1
  · rcases hj with h | h | ⟨e, he, h⟩
    · exact .inl (.inl h)
    · exact .inl (.inr (.inl h))
    · rcases hm' e he with rfl | ⟨h1, h2⟩
      · exact .inr (hv j h)
      · exact .inl (.inr (.inr ⟨e, h1, h⟩))
theorem CalTo.del (x : CalIs W q b es D n) (o : CalO es D n) (hm : MapIs w' b (restD es k)) (hc : Chg (fun j => j = q ∨ j = b) W w')
    (hb : Blk w' q [.int .i64 16, .map (some b), .int .i64 n']) (o' : CalO (restD es k) D n') : CalTo W w' q b es (restD es k) D n' :=
  ⟨⟨hb, hm, fun e he => (x.r e (restD_mem.1 he).1).chgM hc (fun j hj hs => by rcases hs with rfl | rfl; exact x.qr e (restD_mem.1 he).1 hj; exact x.br e (restD_mem.1 he).1 hj), fun j => (hc.marks _).trans (x.fz j), x.qb, fun e he => x.qr e (restD_mem.1 he).1, fun e he => x.br e (restD_mem.1 he).1⟩, o', hc, fun j hj => by
    rcases hj with h | h | ⟨e, he, h⟩
    · exact .inl (.inl h)
    · exact .inl (.inr (.inl h))
    · exact .inl (.inr (.inr ⟨e, (restD_mem.1 he).1, h⟩))⟩
end

set_option maxRecDepth 100000 in
set_option maxHeartbeats 2000000 in
theorem caltake_any (q b : Nat) (es : List (Int × Value)) (D : Int → List Msg) (n : Nat) (k : Int) (v : Value) (m : Msg) (r : List Msg) (w : World) (x : CalIs w q b es D n) (o : CalO es D n) (hb : ∀ m ∈ calAll es D, m.t ≤ 2000000000) (hn : n ≤ 1000000) (hv : (k, v) ∈ es) (hD : D k = m :: r) :
    Calls Tryz.prog 141 #[.pointer (some ⟨q, 0, none⟩), .int .i64 k, .int .i64 0] w fun e w' => e = .returned m.val ∧ ∃ es' D' n', CalTo w w' q b es es' D' n' ∧ (m :: calAll es' D').Perm (calAll es D) := by
  obtain ⟨t, hkt, ht, hwf⟩ := key_wf o hv hb
  have hsp := all_split x.m.keys (.inl ⟨hv, rfl⟩ : Old es D k v (D k))
  rw [hD] at hsp
  have hn0 : 0 < n := by have := hsp.length_eq; rw [o.tot, this]; simp
  have row := x.r _ hv
  simp only [hD] at row
  obtain ⟨g, cap, hvv, hbe⟩ := OwnR.atM row (i := 0) (m := m) rfl
  rw [Nat.zero_mul] at hbe
  subst hvv
  have hget := get_mem x.m.keys hv
  obtain ⟨N, hN⟩ : ∃ N, (m :: r).length = N := ⟨_, rfl⟩
  have hN1 : 0 < N := by rw [← hN]; simp
  have hgq : ¬ g = q := fun e => x.qr _ hv (same_slc.2 e.symm)
  have hgb : ¬ g = b := fun e => x.br _ hv (same_slc.2 e.symm)
  rw [hN] at hv hget row
  have hgl : g < w.heap.size := OwnR.block_lt row g (same_slc.2 rfl)
  have H := Lib.hid (And.intro x (And.intro o (And.intro hsp (And.intro row (And.intro hbe (And.intro hget (And.intro hwf (And.intro hN (And.intro hv hD)))))))))
  clear x o hb hsp row hbe hget hv hD hkt ht
  go_enter Tryz.func141, Tryz.ntmps141
  go_upto_region 1 with (fail)
  refine wp_alloc1 (A := zeroMsg.list) fun W1 hU1 hs1 bR => ?_
  have X1 := Lib.hid (And.intro (H.out.1.up hU1) (And.intro hU1 (And.intro bR hs1)))
  clear hU1 hs1 bR
  have rq := X1.out.1.b.get
  have klk : (Instr.lookup 114 (.map (some b)) (.int .i64 k) false).run Tryz.prog W1 = .ok (slc g N cap) W1 := by
    rw [map_lookup X1.out.1.m hwf, H.out.2.2.2.2.2.1]
  have kE := (H.out.2.2.2.2.1.up X1.out.2.1).blk0.get
  go_upto_region 3 with (fail)
  refine wp_alloc1 (A := m.list) fun W2 hU2 hs2 bM => ?_
  have X2 := Lib.hid (And.intro (X1.out.1.up hU2) (And.intro hU2 (And.intro bM (And.intro (X1.out.2.2.1.up hU2) hs2))))
  clear rq klk kE hU2 hs2 bM
  have rq := X2.out.1.b.get
  have hF := X2.out.1.fz
  have hqw : q < w.heap.size := X1.out.1.lt q (.inl rfl) |> fun _ => H.out.1.lt q (.inl rfl)
  obtain ⟨e, he⟩ : ∃ e, n - 1 = e := ⟨_, rfl⟩
  have w_e : IntKind.i64.wrap ((n : Int) - 1) = (e : Int) := by rw [IntWalk.i64_in _ (by omega)]; omega
  go_upto_region 4 with (fail)
  obtain ⟨W3, hW3⟩ : ∃ W3, W2.setCell ⟨q, 2, none⟩ (.int .i64 e) = W3 := ⟨_, rfl⟩
  have c3 : Chg (· = q) W2 W3 := by rw [← hW3]; exact Chg.setCell (S := (· = q)) (p := ⟨q, 2, none⟩) (Chg.refl _ _) (Or.inl rfl) _
  have b3 : Blk W3 q [.int .i64 16, .map (some b), .int .i64 e] := by rw [← hW3]; exact X2.out.1.b.set 2 (.int .i64 e) (by simp)
  have m3 := X2.out.1.m.chg c3 (fun h => X2.out.1.qb h.symm)
  have hU02 := X1.out.2.1.trans X2.out.2.1
  have c03 : Chg (fun j => j = q ∨ j = b) w W3 := (Chg.of_up hU02).trans c3 (fun _ _ h => .inl h)
  rw [hW3]
  have X3 := Lib.hid (And.intro c3 (And.intro b3 (And.intro m3 (And.intro c03 he))))
  clear c3 b3 m3 hU02 c03 hW3 he rq hF w_e
  have hel : es.length < maxLen := Nat.lt_of_le_of_lt (es_le H.out.2.1) (Nat.lt_of_le_of_lt hn (by decide))
  obtain ⟨bt, hbt⟩ : ∃ bt, ((N : Int) == 1) = bt := ⟨_, rfl⟩
  have kq := X3.out.2.1.get
  go_upto_if 28 with fail
  go_cut [] from 29 to 47 (fun wx => ∃ es' D', Hid (CalTo w wx q b es es' D' e) ∧ Hid ((m :: calAll es' D').Perm (calAll es D)) ∧ Hid (Chg (fun j => j = q ∨ j = b) W3 wx ∧ ∀ j, calFoot q b es' j → calFoot q b es j ∨ W3.heap.size ≤ j))
  case first =>
    rcases r with _ | ⟨y, r⟩
    · have hd : bt = true := by rw [← hbt, beq_iff_eq]; have := H.out.2.2.2.2.2.2.2.1; simp at this; omega
      clear hbt
      subst hd
      go_wp2_with (first | (at_delete; refine wpList_mapDel rfl _ _ rfl rfl X3.out.2.2.1 rfl hwf ?_) | go_in)
      intro W4 m4 c4
      have c34 : Chg (fun j => j = q ∨ j = b) W3 W4 := c4.mono (fun _ _ h => .inr h)
      have c04 := X3.out.2.2.2.1.trans c34 (fun _ _ h => h)
      have hP : (m :: calAll (restD es k) D).Perm (calAll es D) := H.out.2.2.1.symm
      have hT : CalTo w W4 q b es (restD es k) D e := CalTo.del H.out.1 H.out.2.1 m4 c04 (X3.out.2.1.chg c4 H.out.1.qb) (H.out.2.1.del (by have := hP.length_eq; rw [← H.out.2.1.tot] at this; simp at this; have := X3.out.2.2.2.2; omega))
      have HT := Lib.hid (And.intro hT (And.intro hP (And.intro c34 (fun j (hj : calFoot q b (restD es k) j) => (.inl (foot_del j hj) : calFoot q b es j ∨ W3.heap.size ≤ j)))))
      clear m4 c4 c34 c04 hP hT
      go_wp2
      go_meet
      case rel => exact ⟨_, _, Lib.hid HT.out.1, Lib.hid HT.out.2.1, Lib.hid HT.out.2.2⟩
    · have hNr : N - 1 = r.length + 1 := by have := H.out.2.2.2.2.2.2.2.1; simp at this; omega
      have hd : bt = false := by rw [← hbt, beq_eq_false_iff_ne]; omega
      clear hbt
      subst hd
      have hcap : N ≤ cap := by
        rcases H.out.2.2.2.1.is with ⟨h1, _⟩ | ⟨_, _, h1, h2⟩
        · cases h1
        · injection h1 with _ h3 h4; omega
      have h1 : 1 ≤ cap := by omega
      have h2 : (1 : Int) ≤ (N : Int) := by omega
      have h5 : ¬ cap = 1 := by omega
      have h6 : ¬ cap = 0 := by omega
      have kq2 := X3.out.2.1.lift
      have w_1 : IntKind.i64.wrap 1 = (1 : Int) := by decide
      go_upto_region 6 with (fail)
      refine region_upL0 [0, 1, 2, 3, 4, 5, 6, 7, 8, 9, 10, 11, 12] [13] 14 [] (by kernel_rfl) (by kernel_rfl) ?_
      simp only [getOps, List.getElem?_cons_zero, List.getElem?_cons_succ]
      repeat (apply wpUp_step rfl rfl; (focus (intro W hU; go_simp; exact ⟨rfl, Up.refl _⟩)); go_simp)
      refine wpUp_nil fun W5 hW5 => ?_
      have hU35 := up_drew.trans hW5
      have row5 : RowM W5 (slc g N cap) (m :: y :: r) := by
        have h0 := H.out.2.2.2.1
        exact (h0.upM (X1.out.2.1.trans X2.out.2.1)).chgM X3.out.1 (fun j hj h => hgq ((same_slc.1 hj).symm.trans h)) |>.upM hU35
      refine wpNew_append0 rfl (.tmp 42) (.tmp 46) rfl g rfl ⟨g, 7, none⟩ (cap - 1) (K := y :: r) rfl (fun j u hj => ?_) ?_ (by simp) ?_
      · rw [show (⟨g, 7, none⟩ : Addr) = ⟨g, 1 * 7, none⟩ from rfl, Addr.add_mid]
        refine row5.cell (g := g) rfl _ _ ?_
        rw [show msgCells (m :: y :: r) = m.list ++ msgCells (y :: r) from rfl, List.getElem?_append_right (by show 7 ≤ _; omega)]
        rw [show 1 * 7 + j - m.list.length = j by show 1 * 7 + j - 7 = j; omega]
        exact hj
      · have := H.out.2.2.2.2.2.2.2.1
        have := H.out.2.2.1.length_eq
        rw [← H.out.2.1.tot] at this
        simp at this ⊢
        omega
      intro v' W6 hU6 row6 new6
      refine wpNew_nil fun W7 hW7 => ?_
      clear kq2 w_1 h1 h2 h5 h6 hcap
      have hU37 := (hU35.trans hU6).trans hW7
      refine wpList_mapPut rfl _ _ _ rfl rfl (MapIs.chg (S := fun _ => False) X3.out.2.2.1 (.of_up hU37) id) hel rfl hwf rfl ?_
      intro W8 es' m8 hp8 c8
      have c38 : Chg (fun j => j = q ∨ j = b) W3 W8 := (Chg.of_up hU37).trans (c8.mono (T := fun j => j = q ∨ j = b) (fun _ _ h => .inr h)) (fun _ _ h => h)
      have hw3 : w.heap.size ≤ W3.heap.size := X3.out.2.2.2.1.size
      have hnew : ∀ j, sameBlock v' j → w.heap.size ≤ j := fun j hj => by have := new6 j hj; have := hU35.1.size; omega
      have row8 : RowM W8 v' (y :: r) := (row6.upM hW7).chgM c8 (fun j hj h => by have := hnew j hj; have := H.out.1.m.lt; omega)
      have hP : (m :: calAll es' (updD D k (y :: r))).Perm (calAll es D) := by
        refine ((all_put (y :: r) hp8).cons m).trans ?_
        exact H.out.2.2.1.symm
      have hT : CalTo w W8 q b es es' (updD D k (y :: r)) e := CalTo.put H.out.1 H.out.2.1 hp8 m8 row8 (X3.out.2.2.2.1.trans c38 (fun _ _ h => h)) ((X3.out.2.1.up hU37).chg c8 H.out.1.qb) hnew
        (H.out.2.1.put hp8 (by simp) (by
          have := H.out.2.1.srt _ H.out.2.2.2.2.2.2.2.2.1
          simp only [H.out.2.2.2.2.2.2.2.2.2] at this
          intro i j x z hi hij hj hx hz
          exact this (i + 1) (j + 1) x z (by omega) (by omega) (by simp at hj ⊢; omega) hx hz) (fun z hz => H.out.2.1.key _ H.out.2.2.2.2.2.2.2.2.1 z (by simp only [H.out.2.2.2.2.2.2.2.2.2]; exact List.mem_cons_of_mem _ hz)) (by
          have := H.out.2.2.1.length_eq
          rw [← H.out.2.1.tot] at this
          have := X3.out.2.2.2.2
          simp at *; omega))
      have HT := Lib.hid (And.intro hT (And.intro hP (And.intro c38 (foot_put (q := q) (b := b) (B := W3.heap.size) hp8 (fun j hj => Nat.le_trans hU35.1.size (new6 j hj))))))
      clear m8 c8 c38 hP hT hp8 row8 row6 row5 hnew new6 hU35 hU37 hU6 hW7 hW5
      go_wp2
      go_meet
      case rel => exact ⟨_, _, Lib.hid HT.out.1, Lib.hid HT.out.2.1, Lib.hid HT.out.2.2⟩
  case rest =>
    obtain ⟨es', D', hT, hP, hc⟩ := hcut
    obtain ⟨W9, rfl⟩ : ∃ W9 : World, W9 = wc := ⟨_, rfl⟩
    have c29 := (X3.out.1.mono (T := fun j => j = q ∨ j = b) (fun _ _ h => .inl h)).trans hc.out.1 (fun _ _ h => h)
    have hlq := H.out.1.lt q (.inl rfl)
    have hlb := H.out.1.lt b (.inr (.inl rfl))
    have hs1 := X1.out.2.2.2
    have hoff : ∀ j, w.heap.size ≤ j → ¬ (j = q ∨ j = b) := fun j hj h => by rcases h with h | h <;> omega
    have bM9 := X2.out.2.2.1.chg c29 (hoff _ X1.out.2.1.1.size)
    have bR9 := X2.out.2.2.2.1.chg c29 (hoff _ (Nat.le_refl _))
    rw [hs1] at bM9
    have rM := bM9.get
    have rR := bR9.get
    simp only [zeroMsg, Msg.list] at rR
    have hF : ∀ j, W9.frozen? ⟨w.heap.size, j, none⟩ = false := fun j => (hT.out.chg.marks _).trans (frozen_new _ _ (Nat.le_refl _))
    have bR10 := Blk.sets m.list 0 bR9 (by simp [zeroMsg])
    have c10 : Chg (· = w.heap.size) W9 (W9.setCells w.heap.size 0 m.list) := Chg.setCells (S := (· = w.heap.size)) (Or.inl rfl) m.list 0 (Chg.refl _ _)
    have HS := Lib.hid (And.intro bR10 c10)
    clear bM9 bR9 bR10 c10 c29
    go_wp2
    refine bodyPost_ret (w := W9.setCells w.heap.size 0 m.list) (results_blk rfl rfl HS.out.1 Tryz.underlying43 rfl infoMsgN) rfl ⟨rfl, es', D', e, ?_, hP.out⟩
    have T := hT.out
    have hn : ∀ j, calFoot q b es' j → ¬ j = w.heap.size := fun j hj h => by
      rcases hc.out.2 j hj with h1 | h1
      · have := H.out.1.lt _ h1; omega
      · have := X3.out.1.size; have := X2.out.2.1.1.size; omega
    exact ⟨T.is.chg HS.out.2 hn, T.o, T.chg.trans HS.out.2 (fun j hj h => by omega), T.foot⟩
end Go.Proofs.YtalmjdlcogdpmaaGreatDoor

namespace Go.Proofs.YtalmjdlcogdpmaaGreatDoor
open Go.RowKit
attribute [local go_sem] upUpon_value upUpon_enter upUpon_skip upUpon_row ucUpon_value ucUpon_skip ucUpon_enter ucUpon_row

set_option maxRecDepth 100000 in
set_option maxHeartbeats 2000000 in
theorem calpop_any (q b : Nat) (es : List (Int × Value)) (D : Int → List Msg) (n : Nat) (w : World) (x : CalIs w q b es D n) (o : CalO es D n) (hb : ∀ m ∈ calAll es D, m.t ≤ 2000000000) (hn : n ≤ 1000000) (hne : calAll es D ≠ []) :
    Calls Tryz.prog 137 #[.pointer (some ⟨q, 0, none⟩)] w fun e w' => ∃ m es' D' n', e = .returned (.tuple #[m.val, .int .i64 0]) ∧ CalTo w w' q b es es' D' n' ∧ (m :: calAll es' D').Perm (calAll es D) ∧ (∀ y ∈ calAll es D, befB y m = false) := by
  have H := Lib.hid (And.intro x (And.intro o (And.intro hb (And.intro hn hne))))
  clear x o hb hn hne
  go_enter Tryz.func137, Tryz.ntmps137
  go_upto_region 1 with (fail)
  refine wp_alloc1 (A := zeroMsg.list) fun W1 hU1 hs1 bR => ?_
  have X1 := Lib.hid (And.intro (H.out.1.up hU1) (And.intro hU1 (And.intro bR hs1)))
  clear hU1 hs1 bR
  go_wp2_with fail
  refine (calfirst_any q b es D n W1 X1.out.1 H.out.2.1 H.out.2.2.1 H.out.2.2.2.1).mono ?_
  rintro e w2 ⟨hU2, hf⟩
  obtain ⟨k, m, r, hk, hD, rfl⟩ : ∃ k m r, IsLeast es k ∧ D k = m :: r ∧ e = .returned (.tuple #[m.val, .int .i64 0]) := by
    rcases hf with ⟨h1, _⟩ | ⟨k, m, r, h1, h2, h3⟩
    · exfalso
      apply H.out.2.2.2.2
      rw [h1]; rfl
    · rcases h3 with ⟨h4, _⟩ | ⟨m', h4, h5⟩
      · cases h4
      · simp at h4; subst h4; exact ⟨k, m, r, h1, h2, h5⟩
  clear hf
  have hs2 : w.heap.size + 1 ≤ w2.heap.size := by have := hU2.1.size; have := X1.out.2.2.2; omega
  have X2 := Lib.hid (And.intro (X1.out.1.up hU2) (And.intro hU2 (And.intro (X1.out.2.2.1.up hU2) (And.intro hk hD))))
  clear hU2 hk hD
  go_upto_region 2 with (fail)
  refine wp_alloc1 (A := m.list) fun W3 hU3 hs3 bX => ?_
  obtain ⟨X, hX⟩ : ∃ X, w2.heap.size = X := ⟨_, rfl⟩
  rw [hX] at bX hs2
  simp only [hX]
  have x3 := X2.out.1.up hU3
  have X3 := Lib.hid (And.intro x3 (And.intro hU3 (And.intro (X2.out.2.2.1.up hU3) (And.intro bX (And.intro hX hs3)))))
  clear x3 hU3 hs3 bX hX
  go_wp2_with fail
  refine (calleast_at q b es D n k X2.out.2.2.2.1 W3 X3.out.1).mono ?_
  rintro e w4 ⟨rfl, hU4⟩
  have hU04 := ((X1.out.2.1.trans X2.out.2.1).trans X3.out.2.1).trans hU4
  obtain ⟨v, hv, _⟩ := X2.out.2.2.2.1
  have HT := Lib.hid (caltake_any q b es D n k v m r w4 (H.out.1.up hU04) H.out.2.1 H.out.2.2.1 H.out.2.2.2.1 hv X2.out.2.2.2.2)
  have X4 := Lib.hid (And.intro hU04 (And.intro hU4 hU4.1.size))
  clear hU04 hU4 hv
  go_wp2_with fail
  refine HT.out.mono ?_
  rintro e w5 ⟨rfl, es', D', n', hT, hP⟩
  have hs4 := X4.out.2.2
  have hX3 := X3.out.2.2.2.2
  have hlt : w.heap.size < w4.heap.size := by have := X4.out.1.1.size; omega
  have hoff : ∀ j, w.heap.size ≤ j → ¬ (j = q ∨ j = b) := fun j hj h => by
    have h1 := H.out.1.lt q (.inl rfl)
    have h2 := H.out.1.lt b (.inr (.inl rfl))
    rcases h with h | h <;> omega
  have bR5 := ((X3.out.2.2.1.up X4.out.2.1).chg hT.chg (hoff _ (Nat.le_refl _)))
  have bX5 := ((X3.out.2.2.2.1.up X4.out.2.1).chg hT.chg (hoff _ (by omega)))
  have rX := bX5.get
  have rR := bR5.get
  have c05 : Chg (fun j => j = q ∨ j = b) w w5 := (Chg.of_up X4.out.1).trans hT.chg (fun _ _ e => e)
  have hF : ∀ j, w5.frozen? ⟨w.heap.size, j, none⟩ = false := fun j => (c05.marks _).trans (frozen_new _ _ (Nat.le_refl _))
  have bR6 := Blk.sets m.list 0 bR5 (by simp [zeroMsg])
  have cR6 : Chg (· = w.heap.size) w5 (w5.setCells w.heap.size 0 m.list) := Chg.setCells (S := (· = w.heap.size)) (Or.inl rfl) m.list 0 (Chg.refl _ w5)
  have H5 := Lib.hid (And.intro bR6 (And.intro cR6 (And.intro c05 (And.intro hT hP))))
  have HN := Lib.hid hlt
  simp only [zeroMsg, Msg.list] at rR
  clear bR6 cR6 c05 hT hP bR5 bX5 hlt hX3 hs4
  go_wp2
  obtain ⟨z1, z2, z3, z4, z5⟩ := H5.out
  refine bodyPost_ret (w := w5.setCells w.heap.size 0 m.list) (results_blk_tmp rfl rfl z1 Tryz.underlying43 rfl infoMsgN) rfl ⟨m, es', D', n', rfl, ⟨z4.is.chg z2 (fun j hj e => ?_), z4.o, z3.trans z2 (fun j hj e => by omega), fun j hj => (z4.foot j hj).imp id (fun h => Nat.le_trans X4.out.1.1.size h)⟩, z5, H.out.2.1.least X2.out.2.2.2.1 X2.out.2.2.2.2⟩
  have := HN.out
  rcases z4.foot j hj with h1 | h1
  · have := H.out.1.lt _ h1; omega
  · omega
end Go.Proofs.YtalmjdlcogdpmaaGreatDoor

namespace Go.Proofs.YtalmjdlcogdpmaaGreatDoor
open Go.RowKit
attribute [local go_sem] upUpon_value upUpon_enter upUpon_skip upUpon_row ucUpon_value ucUpon_skip ucUpon_enter ucUpon_row

/-- Is a message behind all of some in order? -/
def bhdB (L : List Msg) (m : Msg) : Bool := match L.getLast? with
  | none => true
  | some y => !befB m y
set_option maxRecDepth 100000 in
set_option maxHeartbeats 2000000 in
theorem behind_any (v : Value) (L : List Msg) (m : Msg) (w : World) (h : RowM w v L) (hn : L.length ≤ 1000000) (hne : L ≠ []) :
    Calls Tryz.prog 158 #[v, m.val] w fun e w' => Up w w' ∧ e = .returned (.bool (bhdB L m)) := by
  obtain ⟨N, hN⟩ : ∃ N, L.length = N := ⟨_, rfl⟩
  have hN0 : 0 < N := by rw [← hN]; exact List.length_pos_iff.2 hne
  obtain ⟨j, hj⟩ : ∃ j, j = N - 1 := ⟨_, rfl⟩
  obtain ⟨y, hy⟩ : ∃ y, L[j]? = some y := ⟨L[j]'(by omega), List.getElem?_eq_getElem _⟩
  have hlast : L.getLast? = some y := by rw [List.getLast?_eq_getElem?, hN, ← hj]; exact hy
  obtain ⟨g, cap, hv, hbe⟩ := OwnR.atM h hy
  rw [hN] at hv
  have hd : ((N : Int) == 0) = false := by rw [beq_eq_false_iff_ne]; omega
  have hjN : j < N := by omega
  have w_j : IntKind.i64.wrap ((N : Int) - 1) = (j : Int) := by rw [IntWalk.i64_in _ (by omega)]; omega
  have H := Lib.hid (And.intro hlast hbe)
  clear h hy hlast hbe hN hj
  simp only [Msg.val]
  rw [hv]
  clear hv
  go_enter Tryz.func158, Tryz.ntmps158
  go_upto_region 1 with (fail)
  refine wp_alloc1 fun W1 hU1 hs1 bM => ?_
  have kM := bM.lift
  have hbe := H.out.2.up hU1
  have kE := hbe.lift
  have kE0 := liftC hbe.zero
  clear hbe
  refine region_upL0 [0, 1, 2, 3, 4, 5, 6, 7, 8, 9, 10, 11, 12, 13] [] 14 [] (by kernel_rfl) (by kernel_rfl) ?_
  simp only [getOps, List.getElem?_cons_zero, List.getElem?_cons_succ]
  iterate 4 (apply wpUp_step rfl rfl; (focus (intro W hU; go_simp; exact ⟨rfl, Up.refl _⟩)); go_simp)
  iterate 7 (apply wpUp_yes rfl rfl; (focus (intro W hU; go_simp; exact ⟨rfl, Up.refl _⟩)); go_simp)
  (apply wpUp_yes rfl rfl; (focus (intro W hU; go_simp; exact before_any m y W)); go_simp)
  (apply wpUp_yes rfl rfl; (focus (intro W hU; go_simp; exact ⟨rfl, Up.refl _⟩)); go_simp)
  (apply wpUp_step rfl rfl; (focus (intro W hU; go_simp; exact ⟨rfl, Up.refl _⟩)); go_simp)
  refine wpUp_nil fun W3 hW3 => ?_
  refine wpNew_nil fun W4 hW4 => ?_
  have HU := Lib.hid (hU1.trans ((up_drew.trans hW3).trans hW4))
  clear kM kE kE0
  go_wp2
  go_ret
  exact ⟨HU.out, ret_bool (by unfold bhdB; rw [H.out.1])⟩

/-- How many there are. -/
def ladN (L : List Msg) (Rs : List (List Msg)) : Nat := L.length + (Rs.map List.length).sum
set_option maxRecDepth 100000 in
set_option maxHeartbeats 2000000 in
theorem ladlen_any (q : Nat) (lv rv : Value) (vs : List Value) (L : List Msg) (Rs : List (List Msg)) (w : World) (x : LadIs w q lv rv vs L Rs) (hn : ladN L Rs ≤ 100000) (hr : Rs.length ≤ 100000) :
    Calls Tryz.prog 150 #[.pointer (some ⟨q, 0, none⟩)] w fun e w' => w = w' ∧ e = .returned (.int .i64 (ladN L Rs)) := by
  obtain ⟨p, c, hv⟩ := OwnR.form x.r
  obtain ⟨pr, cr, hrv⟩ := OwnR.form x.g
  have rb := x.b.get
  rw [hv, hrv] at rb
  have HN := Lib.hid (ladnone_any q w (x.b.at (i := 1) rfl))
  obtain ⟨K, hK⟩ : ∃ K, vs.length = K := ⟨_, rfl⟩
  rw [hK] at rb
  have H := Lib.hid (And.intro x (And.intro hv (And.intro hrv (And.intro hK hn))))
  have hK2 : K ≤ 100000 := by rw [← hK, x.len]; exact hr
  clear x hv hrv hn hK hr
  have hLl : L.length ≤ 100000 := by have := H.out.2.2.2.2; unfold ladN at this; omega
  go_enter Tryz.func150, Tryz.ntmps150
  go_wp2_with fail
  refine HN.out.mono ?_
  rintro e w2 ⟨rfl, rfl⟩
  go_wp2_with fail
  clear rb
  go_loopw [3, 19] (fun v x wr => ∃ i n : Nat, i ≤ K ∧ v = .int .i64 n ∧ x = .int .i64 i ∧ n ≤ 100000 ∧ Hid (n = ladN L (Rs.take i)) ∧ Hid (w2 = wr)) (fun _ x _ => K - (intOf x).toNat)
  case atStart => exact ⟨0, L.length, Nat.zero_le _, rfl, rfl, hLl, Lib.hid (by simp [ladN]), Lib.hid rfl⟩
  case round =>
    obtain ⟨i, n, hi, rfl, rfl, hn, hsum, hw⟩ := hrel
    by_cases hlt : i < K
    · obtain ⟨v, hv⟩ : ∃ v, vs[i]? = some v := ⟨vs[i]'(by rw [H.out.2.2.2.1]; exact hlt), List.getElem?_eq_getElem _⟩
      obtain ⟨R, hR⟩ : ∃ R, Rs[i]? = some R := ⟨Rs[i]'(by rw [← H.out.1.len, H.out.2.2.2.1]; exact hlt), List.getElem?_eq_getElem _⟩
      obtain ⟨pv, cv, hvf⟩ := OwnR.form (H.out.1.rr i v R hv hR)
      obtain ⟨g, cap, hg⟩ := OwnR.pos H.out.1.g (by rw [H.out.2.2.2.1]; omega)
      have hpg : pr = some ⟨g, 0, none⟩ := by have := H.out.2.2.1; rw [hg] at this; injection this with h1 _ _; exact h1.symm
      have hcell := H.out.1.g.cell (g := g) (by rw [hg]; rfl) i v hv
      rw [hw.out, hvf] at hcell
      subst hpg
      have hsn : ladN L (Rs.take (i + 1)) = n + R.length := by
        rw [hsum.out]
        unfold ladN
        rw [List.take_add_one, hR]
        simp [Nat.add_assoc]
      have hle : n + R.length ≤ 100000 := by
        rw [← hsn]
        refine Nat.le_trans ?_ H.out.2.2.2.2
        unfold ladN
        refine Nat.add_le_add_left ?_ _
        conv => rhs; rw [← List.take_append_drop (i + 1) Rs]
        rw [List.map_append, List.sum_append]
        omega
      have HS := Lib.hid (And.intro hsn hw.out)
      clear hv hR hvf hg hsn
      go_wp2
      exact ⟨⟨i + 1, n + R.length, by omega, by go_num, by go_num, hle, Lib.hid HS.out.1.symm, Lib.hid HS.out.2⟩, by simp [intOf]; omega⟩
    · go_wp2
      go_ret
      have hik : i = Rs.length := by have h1 := H.out.1.len; have h2 := H.out.2.2.2.1; omega
      have := hsum.out
      rw [hik, List.take_length] at this
      exact ⟨hw.out, ret_int (by rw [this])⟩
end Go.Proofs.YtalmjdlcogdpmaaGreatDoor

namespace Go.Proofs.YtalmjdlcogdpmaaGreatDoor
open Go.RowKit
attribute [local go_sem] upUpon_value upUpon_enter upUpon_skip upUpon_row ucUpon_value ucUpon_skip ucUpon_enter ucUpon_row

theorem mem_le_sum : ∀ (l : List Nat) (x : Nat), x ∈ l → x ≤ l.sum
  | [], _, h => by simp at h
  | y :: l, x, h => by
    rw [List.sum_cons]
    rcases List.mem_cons.1 h with rfl | h
    · omega
    · have := mem_le_sum l x h; omega
set_option maxRecDepth 100000 in
set_option maxHeartbeats 2000000 in
theorem ladis_no (m : Msg) (fr uid : Int) (F U : Nat) (w : World) (hF : Blk w F [.int .i64 fr]) (hU : Blk w U [.int .i64 uid]) (hno : ¬ (m.f = fr ∧ m.u = uid)) :
    Calls Tryz.prog 161 #[m.val, .pointer (some ⟨F, 0, none⟩), .pointer (some ⟨U, 0, none⟩)] w fun e w' => Up w w' ∧ e = .returned (.bool false) := by
  have H := Lib.hid (And.intro hF hU)
  clear hF hU
  simp only [Msg.val]
  by_cases hf : m.f = fr
  · have hu : ¬ m.u = uid := fun h => hno ⟨hf, h⟩
    have hd1 : (m.f == fr) = true := by rw [beq_iff_eq]; exact hf
    have hd2 : (m.u == uid) = false := by rw [beq_eq_false_iff_ne]; exact hu
    clear hf hu hno
    go_enter Tryz.func161, Tryz.ntmps161
    go_upto_region 1 with (fail)
    refine wp_alloc1 (A := m.list) fun W1 hU1 hs1 bM => ?_
    have rM := bM.get
    have rF := (H.out.1.up hU1).get
    have rU := (H.out.2.up hU1).get
    have HU := Lib.hid hU1
    clear hU1
    go_wp2
    go_ret
    exact ⟨HU.out, rfl⟩
  · have hd1 : (m.f == fr) = false := by rw [beq_eq_false_iff_ne]; exact hf
    clear hf hno
    go_enter Tryz.func161, Tryz.ntmps161
    go_upto_region 1 with (fail)
    refine wp_alloc1 (A := m.list) fun W1 hU1 hs1 bM => ?_
    have rM := bM.get
    have rF := (H.out.1.up hU1).get
    have HU := Lib.hid hU1
    clear hU1
    go_wp2
    go_ret
    exact ⟨HU.out, rfl⟩

set_option maxRecDepth 100000 in
set_option maxHeartbeats 2000000 in
theorem ladfind_no (q : Nat) (lv rv : Value) (vs : List Value) (L : List Msg) (Rs : List (List Msg)) (fr uid : Int) (w : World) (x : LadIs w q lv rv vs L Rs) (hn : ladN L Rs ≤ 100000) (hr : Rs.length ≤ 100000)
    (hno1 : ∀ m ∈ L, ¬ (m.f = fr ∧ m.u = uid)) (hno2 : ∀ R ∈ Rs, ∀ m ∈ R, ¬ (m.f = fr ∧ m.u = uid)) :
    Calls Tryz.prog 156 #[.pointer (some ⟨q, 0, none⟩), .int .i64 fr, .int .i64 uid] w fun e w' => Up w w' ∧ e = .returned (.tuple #[.int .i64 0, .int .i64 0, .bool false]) := by
  obtain ⟨p, c, hv⟩ := OwnR.form x.r
  obtain ⟨pr, cr, hrv⟩ := OwnR.form x.g
  obtain ⟨K, hK⟩ : ∃ K, vs.length = K := ⟨_, rfl⟩
  have hLl : L.length ≤ 100000 := by unfold ladN at hn; omega
  have hK2 : K ≤ 100000 := by rw [← hK, x.len]; exact hr
  have H := Lib.hid (And.intro x (And.intro hv (And.intro hrv (And.intro hK (And.intro hn (And.intro hno1 hno2))))))
  clear x hv hrv hn hK hr hno1 hno2
  go_enter Tryz.func156, Tryz.ntmps156
  go_wp2
  go_step3
  refine wp_alloc2 fun W1 hU1 hs1 bF bU => ?_
  obtain ⟨F, hF⟩ : ∃ F, w.heap.size = F := ⟨_, rfl⟩
  obtain ⟨U, hU⟩ : ∃ U, F + 1 = U := ⟨_, rfl⟩
  rw [hF] at bF
  rw [hF, hU] at bU
  simp only [hF, hU]
  have rb := (H.out.1.up hU1).b.get
  rw [H.out.2.1, H.out.2.2.1, H.out.2.2.2.1] at rb
  have H1 := Lib.hid (And.intro hU1 (And.intro bF bU))
  clear hU1 hs1 bF bU hF hU
  go_wp2_with fail
  clear rb
  go_loopw [6, 7, 8, 23] (fun v6 v7 v8 x wr => ∃ i : Nat, i ≤ L.length ∧ v6 = .int .i64 0 ∧ v7 = .int .i64 0 ∧ v8 = .bool false ∧ x = .int .i64 i ∧ Hid (Up W1 wr)) (fun _ _ _ x _ => L.length - (intOf x).toNat)
  case atStart => exact ⟨0, Nat.zero_le _, rfl, rfl, rfl, rfl, Lib.hid (Up.refl _)⟩
  case round =>
    obtain ⟨i, hi, rfl, rfl, rfl, rfl, hU⟩ := hrel
    by_cases hlt : i < L.length
    · obtain ⟨y, hy⟩ : ∃ y, L[i]? = some y := ⟨L[i], by simp [hlt]⟩
      obtain ⟨g, cap, hv, hbe⟩ := OwnR.atM ((H.out.1.up (H1.out.1.trans hU.out)).r) hy
      have hpg : p = some ⟨g, 0, none⟩ := by have := H.out.2.1; rw [hv] at this; injection this with h1 _ _; exact h1.symm
      have hcc : c = cap := by have := H.out.2.1; rw [hv] at this; injection this with _ _ h1; exact h1.symm
      subst hpg hcc
      have rE := hbe.get
      have rE0 := hbe.zero
      have HE := Lib.hid hy
      clear hy hv hbe
      go_upto_region 5 with (fail)
      refine wp_alloc1 (A := y.list) fun W2 hU2 hs2 bX => ?_
      have rX := bX.get
      have HU := Lib.hid (hU.out.trans hU2)
      clear rE rE0 hs2 hU2
      go_wp2_with fail
      refine (ladis_no y fr uid F U _ (H1.out.2.1.up HU.out) (H1.out.2.2.up HU.out) (H.out.2.2.2.2.2.1 y (List.mem_of_getElem? HE.out))).mono ?_
      rintro e w3 ⟨hU3, rfl⟩
      have HU3 := Lib.hid (HU.out.trans hU3)
      clear hU3 rX bX
      go_wp2
      exact ⟨⟨i + 1, by omega, rfl, rfl, rfl, by go_num, HU3⟩, by simp [intOf]; omega⟩
    · have rb := (H.out.1.up (H1.out.1.trans hU.out)).b.get
      rw [H.out.2.1, H.out.2.2.1, H.out.2.2.2.1] at rb
      go_wp2_with fail
      go_step3
      go_wp2_with fail
      clear rb
      obtain ⟨wo, rfl⟩ : ∃ wo : World, wo = wr := ⟨_, rfl⟩
      go_loopw [6, 7, 8, 38] (fun v6 v7 v8 x wr => ∃ k : Nat, k ≤ K ∧ v6 = .int .i64 0 ∧ v7 = .int .i64 0 ∧ v8 = .bool false ∧ x = .int .i64 k ∧ Hid (Up W1 wr)) (fun _ _ _ x _ => K - (intOf x).toNat)
      case atStart => exact ⟨0, Nat.zero_le _, rfl, rfl, rfl, rfl, hU⟩
      case round =>
        obtain ⟨k, hk, rfl, rfl, rfl, rfl, hU⟩ := hrel
        by_cases hlt : k < K
        · obtain ⟨v, hv⟩ : ∃ v, vs[k]? = some v := ⟨vs[k]'(by rw [H.out.2.2.2.1]; exact hlt), List.getElem?_eq_getElem _⟩
          obtain ⟨R, hR⟩ : ∃ R, Rs[k]? = some R := ⟨Rs[k]'(by rw [← H.out.1.len, H.out.2.2.2.1]; exact hlt), List.getElem?_eq_getElem _⟩
          obtain ⟨pv, cv, hvf⟩ := OwnR.form (H.out.1.rr k v R hv hR)
          obtain ⟨g, cap, hg⟩ := OwnR.pos H.out.1.g (by rw [H.out.2.2.2.1]; omega)
          have hpg : pr = some ⟨g, 0, none⟩ := by have := H.out.2.2.1; rw [hg] at this; injection this with h1 _ _; exact h1.symm
          have hcell := (H.out.1.up (H1.out.1.trans hU.out)).g.cell (g := g) (by rw [hg]; rfl) k v hv
          have hRl : R.length ≤ 100000 := by
            refine Nat.le_trans ?_ H.out.2.2.2.2.1
            unfold ladN
            have := mem_le_sum (Rs.map List.length) R.length (List.mem_map.2 ⟨R, List.mem_of_getElem? hR, rfl⟩)
            omega
          rw [hvf] at hcell
          subst hpg
          have HV := Lib.hid (And.intro hv (And.intro hR hvf))
          clear hv hR hvf hg
          go_wp2_with fail
          clear hcell
          obtain ⟨wo, rfl⟩ : ∃ wo : World, wo = wr := ⟨_, rfl⟩
          go_loopw [6, 7, 8, 45] (fun v6 v7 v8 x wr => ∃ i : Nat, i ≤ R.length ∧ v6 = .int .i64 0 ∧ v7 = .int .i64 0 ∧ v8 = .bool false ∧ x = .int .i64 i ∧ Hid (Up W1 wr)) (fun _ _ _ x _ => R.length - (intOf x).toNat)
          case atStart => exact ⟨0, Nat.zero_le _, rfl, rfl, rfl, rfl, hU⟩
          case round =>
            obtain ⟨i, hi, rfl, rfl, rfl, rfl, hU⟩ := hrel
            by_cases hlt : i < R.length
            · obtain ⟨y, hy⟩ : ∃ y, R[i]? = some y := ⟨R[i], by simp [hlt]⟩
              obtain ⟨g', cap', hv, hbe⟩ := OwnR.atM ((H.out.1.up (H1.out.1.trans hU.out)).rr k v R HV.out.1 HV.out.2.1) hy
              have hpg : pv = some ⟨g', 0, none⟩ := by have := HV.out.2.2; rw [hv] at this; injection this with h1 _ _; exact h1.symm
              have hcc : cv = cap' := by have := HV.out.2.2; rw [hv] at this; injection this with _ _ h1; exact h1.symm
              subst hpg hcc
              have rE := hbe.get
              have rE0 := hbe.zero
              have HE := Lib.hid hy
              clear hy hv hbe
              go_upto_region 14 with (fail)
              refine wp_alloc1 (A := y.list) fun W2 hU2 hs2 bX => ?_
              have rX := bX.get
              have HU := Lib.hid (hU.out.trans hU2)
              clear rE rE0 hs2 hU2
              go_wp2_with fail
              refine (ladis_no y fr uid F U _ (H1.out.2.1.up HU.out) (H1.out.2.2.up HU.out) (H.out.2.2.2.2.2.2 R (List.mem_of_getElem? HV.out.2.1) y (List.mem_of_getElem? HE.out))).mono ?_
              rintro e w3 ⟨hU3, rfl⟩
              have HU3 := Lib.hid (HU.out.trans hU3)
              clear hU3 rX bX
              go_wp2
              exact ⟨⟨i + 1, by omega, rfl, rfl, rfl, by go_num, HU3⟩, by simp [intOf]; omega⟩
            · go_wp2
              exact ⟨⟨k + 1, by omega, rfl, rfl, rfl, by go_num, hU⟩, by simp [intOf]; omega⟩
        · go_wp2
          rw [Exit.noGoto_ret]
          go_ret3
          exact ⟨H1.out.1.trans hU.out, rfl⟩
end Go.Proofs.YtalmjdlcogdpmaaGreatDoor

namespace Go.Proofs.YtalmjdlcogdpmaaGreatDoor
open Go.RowKit
attribute [local go_sem] upUpon_value upUpon_enter upUpon_skip upUpon_row ucUpon_value ucUpon_skip ucUpon_enter ucUpon_row

/-- Where a message goes. -/
structure InsAt (L : List Msg) (m : Msg) (k : Nat) : Prop where
  le : k ≤ L.length
  hi : ∀ (j : Nat) (y : Msg), k ≤ j → L[j]? = some y → befB m y = true
  lo : 0 < k → ∀ y, L[k - 1]? = some y → befB m y = false
theorem msgCells_drop (L : List Msg) (k : Nat) : msgCells (L.drop k) = (msgCells L).drop (k * 7) := by
  induction L generalizing k with
  | nil => simp [msgCells]
  | cons e L ih =>
    cases k with
    | zero => simp
    | succ k =>
      simp only [List.drop_succ_cons, msgCells, List.flatMap_cons] at ih ⊢
      rw [ih k, List.drop_append, show e.list.length = 7 from rfl, (List.drop_eq_nil_of_le (by show (7 : Nat) ≤ _; omega) : e.list.drop ((k + 1) * 7) = []), List.nil_append, show (k + 1) * 7 - 7 = k * 7 by omega]
theorem ins_list {L : List Msg} {m z : Msg} {k : Nat} (h : k ≤ L.length) : (spl (L ++ [z]) (k + 1) (L.drop k)).set k m = L.take k ++ m :: L.drop k := by
  have hl : k + 1 + (L.drop k).length ≤ (L ++ [z]).length := by simp; omega
  apply List.ext_getElem?
  intro i
  rw [List.getElem?_set, spl_length hl]
  by_cases e : k = i
  · subst e
    rw [if_pos rfl, if_pos (by simp; omega), List.getElem?_append_right (by simp; omega)]
    simp [Nat.min_eq_left h]
  · rw [if_neg e, spl_get hl]
    rcases Nat.lt_or_ge i k with h1 | h1
    · rw [if_pos (by omega), List.getElem?_append_left (by omega), List.getElem?_append_left (by rw [List.length_take]; omega), List.getElem?_take_of_lt h1]
    · rw [if_neg (by omega), List.getElem?_append_right (l₁ := L.take k) (by rw [List.length_take]; omega), List.length_take, Nat.min_eq_left h]
      obtain ⟨d, rfl⟩ : ∃ d, i = k + 1 + d := ⟨i - k - 1, by omega⟩
      rw [show k + 1 + d - (k + 1) = d by omega, show k + 1 + d - k = d + 1 by omega, List.getElem?_cons_succ]
      by_cases h2 : d < (L.drop k).length
      · rw [if_pos (by omega)]
      · rw [if_neg (by omega), List.getElem?_eq_none (l := L ++ [z]) (by simp at h2 ⊢; omega), List.getElem?_eq_none (l := L.drop k) (by omega)]

set_option maxRecDepth 100000 in
set_option maxHeartbeats 2000000 in
theorem ladinsert_any (q : Nat) (lv x1 x2 : Value) (L : List Msg) (m : Msg) (w : World) (hb : Blk w q [lv, x1, x2]) (hr : RowM w lv L) (hf : ∀ j, w.frozen? ⟨q, j, none⟩ = false) (hq : ¬ sameBlock lv q) (hn : L.length ≤ 100000) :
    Calls Tryz.prog 159 #[.pointer (some ⟨q, 0, none⟩), m.val] w fun e w' => e = .returned (.tuple #[]) ∧ Chg (fun k => k = q ∨ sameBlock lv k) w w' ∧ ∃ lv' k, InsAt L m k ∧ Blk w' q [lv', x1, x2] ∧ RowM w' lv' (L.take k ++ m :: L.drop k) ∧ ∀ j, sameBlock lv' j → sameBlock lv j ∨ w.heap.size ≤ j := by
  obtain ⟨p, c, hv⟩ := OwnR.form hr
  obtain ⟨N, hN⟩ : ∃ N, L.length = N := ⟨_, rfl⟩
  have hqw : q < w.heap.size := hb.lt (by simp)
  rw [hN] at hv hn
  have H := Lib.hid (And.intro hb (And.intro hr (And.intro hf (And.intro hq (And.intro hv hN)))))
  clear hb hr hf hq hv hN
  simp only [Msg.val]
  go_enter Tryz.func159, Tryz.ntmps159
  go_upto_region 1 with (fail)
  refine wp_alloc1 (A := m.list) fun W1 hU1 hs1 bM => ?_
  have rq := (H.out.1.up hU1).get
  rw [H.out.2.2.2.2.1] at rq
  have H1 := Lib.hid (And.intro hU1 bM)
  clear hU1 hs1 bM
  go_wp2_with fail
  clear rq
  go_loopw [4] (fun x wr => ∃ k : Nat, k ≤ N ∧ x = .int .i64 k ∧ Hid (Up W1 wr) ∧ Hid (∀ (j : Nat) (y : Msg), k ≤ j → L[j]? = some y → befB m y = true)) (fun x _ => (intOf x).toNat)
  case atStart => exact ⟨N, Nat.le_refl _, rfl, Lib.hid (Up.refl _), Lib.hid (fun j y h hy => by have := (List.getElem?_eq_some_iff.1 hy).1; have := H.out.2.2.2.2.2; omega)⟩
  case round =>
    obtain ⟨k, hk, rfl, hU, hall⟩ := hrel
    obtain ⟨wo, rfl⟩ : ∃ wo : World, wo = wr := ⟨_, rfl⟩
    have bq := H.out.1.up (H1.out.1.trans hU.out)
    have bM := H1.out.2.up hU.out
    rw [H.out.2.2.2.2.1] at bq
    go_upto_region 2 with (fail)
    go_cut [23] from 10 to 25 (fun v wx => ∃ b : Bool, v = .bool b ∧ Hid (Up W1 wx) ∧ Hid (b = true → 0 < k ∧ ∀ y, L[k - 1]? = some y → befB m y = true) ∧ Hid (b = false → InsAt L m k))
    case first =>
      rcases Nat.eq_zero_or_pos k with h0 | h0
      · subst h0
        have hi : InsAt L m 0 := ⟨Nat.zero_le _, hall.out, fun h => absurd h (Nat.lt_irrefl _)⟩
        have HI := Lib.hid hi
        clear hi
        refine region_upL0 [0, 1, 2, 3, 4, 5, 6, 7, 8, 9, 10, 11, 12] [] 13 [] (by kernel_rfl) (by kernel_rfl) ?_
        simp only [getOps, List.getElem?_cons_zero, List.getElem?_cons_succ]
        iterate 3 (apply wpUp_step rfl rfl; (focus (intro W hU; go_simp; exact ⟨rfl, Up.refl _⟩)); go_simp)
        iterate 10 (apply wpUp_no rfl; go_simp)
        refine wpUp_nil fun W3 hW3 => ?_
        refine wpNew_nil fun W4 hW4 => ?_
        have HU := Lib.hid (hU.out.trans ((up_drew.trans hW3).trans hW4))
        go_wp2
        go_meet
        case rel => exact ⟨false, rfl, HU, Lib.hid (fun h => by cases h), Lib.hid (fun _ => HI.out)⟩
      · obtain ⟨j, hj⟩ : ∃ j, j = k - 1 := ⟨_, rfl⟩
        have hjN : j < N := by omega
        obtain ⟨y, hy⟩ : ∃ y, L[j]? = some y := ⟨L[j]'(by rw [H.out.2.2.2.2.2]; exact hjN), List.getElem?_eq_getElem _⟩
        obtain ⟨g, cap, hv, hbe⟩ := OwnR.atM (H.out.2.1.upM (H1.out.1.trans hU.out)) hy
        have hpg : p = some ⟨g, 0, none⟩ := by have := H.out.2.2.2.2.1; rw [hv] at this; injection this with h1 _ _; exact h1.symm
        have hcc : c = cap := by have := H.out.2.2.2.2.1; rw [hv] at this; injection this with _ _ h1; exact h1.symm
        subst hpg hcc
        have kq := bq.lift
        have kM := bM.lift
        have kE := hbe.lift
        have kE0 := liftC hbe.zero
        have w_j : IntKind.i64.wrap ((k : Int) - 1) = (j : Int) := by rw [IntWalk.i64_in _ (by omega)]; omega
        have HE := Lib.hid (And.intro hy hj)
        clear hy hv hbe hj
        refine region_upL0 [0, 1, 2, 3, 4, 5, 6, 7, 8, 9, 10, 11, 12] [] 13 [] (by kernel_rfl) (by kernel_rfl) ?_
        simp only [getOps, List.getElem?_cons_zero, List.getElem?_cons_succ]
        iterate 3 (apply wpUp_step rfl rfl; (focus (intro W hU; go_simp; exact ⟨rfl, Up.refl _⟩)); go_simp)
        iterate 9 (apply wpUp_yes rfl rfl; (focus (intro W hU; go_simp; exact ⟨rfl, Up.refl _⟩)); go_simp)
        (apply wpUp_yes rfl rfl; (focus (intro W hU; go_simp; exact before_any m y W)); go_simp)
        refine wpUp_nil fun W3 hW3 => ?_
        refine wpNew_nil fun W4 hW4 => ?_
        clear kq kM kE kE0 w_j
        have HU := Lib.hid (hU.out.trans ((up_drew.trans hW3).trans hW4))
        have HF : Hid ((befB m y = true → 0 < k ∧ ∀ y, L[k - 1]? = some y → befB m y = true) ∧ (befB m y = false → InsAt L m k)) := Lib.hid ⟨fun hb => ⟨h0, fun z hz => by
            rw [← HE.out.2, HE.out.1] at hz; cases hz; exact hb⟩, fun hb => ⟨by rw [H.out.2.2.2.2.2]; exact hk, hall.out, fun _ z hz => by
            rw [← HE.out.2, HE.out.1] at hz; cases hz; exact hb⟩⟩
        obtain ⟨bt, hbt⟩ : ∃ bt, befB m y = bt := ⟨_, rfl⟩
        rw [hbt] at HF ⊢
        clear hbt
        go_wp2
        go_meet
        case rel => exact ⟨bt, rfl, HU, Lib.hid HF.out.1, Lib.hid HF.out.2⟩
    case rest =>
      obtain ⟨b, rfl, hU2, hb1, hb2⟩ := hcut
      obtain ⟨w2, rfl⟩ : ∃ w2 : World, w2 = wc := ⟨_, rfl⟩
      clear bq bM
      cases b
      · have hins := hb2.out rfl
        have HI := Lib.hid hins
        clear hins hb1 hb2
        have bq := H.out.1.up (H1.out.1.trans hU2.out)
        rw [H.out.2.2.2.2.1] at bq
        have rq := bq.get
        have row2 := H.out.2.1.upM (H1.out.1.trans hU2.out)
        go_upto_region 4 with (fail)
        have bX := Blk.alloc w2 zeroMsg.list 43
        have row3 := row2.upM (alloc_up w2 zeroMsg.list.toArray 43)
        have bq3 := bq.up (alloc_up w2 zeroMsg.list.toArray 43)
        rw [H.out.2.2.2.2.1] at row3
        have HX := Lib.hid (And.intro row3 (And.intro bX bq3))
        clear bX row3 bq3 row2
        go_wp2_with (at_builtin; refine wpList_appendM (K := [zeroMsg]) rfl (.tmp 30) (.tmp 32) rfl rfl HX.out.1 rfl (srcBlkM HX.out.2.1) (by rw [H.out.2.2.2.2.2]; simp; omega) ?_)
        intro v' w4 hA
        have hbk : Chg (sameBlock lv) (w2.alloc (.cells zeroMsg.list.toArray 43)) w4 := by rw [H.out.2.2.2.2.1]; exact hA.chg
        have hUw := (H1.out.1.trans hU2.out).trans (alloc_up w2 zeroMsg.list.toArray 43)
        have bq4 := HX.out.2.2.chg hbk H.out.2.2.2.1
        obtain ⟨g, cap, hv'⟩ : ∃ g cap, v' = slc g (N + 1) cap := by
          rcases hA.row.is with ⟨_, h1⟩ | ⟨g, cap, h1, _⟩
          · simp at h1
          · exact ⟨g, cap, by rw [h1]; simp [H.out.2.2.2.2.2]⟩
        subst hv'
        have hnw : ∀ j, j = g → sameBlock lv j ∨ w2.heap.size ≤ j := fun j hj => by
          rcases hA.new j (same_slc.2 hj) with h1 | h1
          · left; rw [H.out.2.2.2.2.1]; exact h1
          · right; rw [World.size_alloc] at h1; omega
        have hgq : g ≠ q := fun e => by
          rcases hnw g rfl with h1 | h1
          · exact H.out.2.2.2.1 (by rw [← e]; exact h1)
          · have := (H1.out.1.trans hU2.out).1.size; omega
        have cT : Chg (sameBlock lv) w w4 := (Chg.of_up hUw).trans hbk (fun _ _ e => e)
        have hF4 : w4.frozen? ⟨q, 0, none⟩ = false := (cT.marks _).trans (H.out.2.2.1 0)
        have b5 := bq4.set 0 (slc g (N + 1) cap) (by simp)
        have c5 : Chg (· = q) w4 (w4.setCell ⟨q, 0, none⟩ (slc g (N + 1) cap)) := Chg.setCell (S := (· = q)) (p := ⟨q, 0, none⟩) (Chg.refl _ _) (Or.inl rfl) _
        have row5 := hA.row.chgM c5 (fun j hj e => hgq ((same_slc.1 hj).symm.trans e))
        have cT5 : Chg (fun k => k = q ∨ sameBlock lv k) w (w4.setCell ⟨q, 0, none⟩ (slc g (N + 1) cap)) := (cT.mono (T := fun k => k = q ∨ sameBlock lv k) (fun _ _ e => .inr e)).trans c5 (fun _ _ e => .inl e)
        have rq4 := bq4.get
        have HT : Hid (Chg (fun k => k = q ∨ sameBlock lv k ∨ k = g) w2 (w4.setCell ⟨q, 0, none⟩ (slc g (N + 1) cap))) := Lib.hid ((((Chg.of_up (alloc_up w2 zeroMsg.list.toArray 43)).trans hbk (fun _ _ e => e)).mono (T := fun k => k = q ∨ sameBlock lv k ∨ k = g) (fun _ _ e => .inr (.inl e))).trans c5 (fun _ _ e => .inl e))
        have H5 := Lib.hid (And.intro b5 (And.intro row5 (And.intro cT5 (And.intro hnw hgq))))
        clear b5 row5 cT5 hnw c5 cT bq4 hbk hA rq bq
        go_upto_region 5 with (fail)
        clear hF4 rq4 HX
        generalize (w4.setCell ⟨q, 0, none⟩ (slc g (N + 1) cap)) = w5 at *
        have hcap : N + 1 ≤ cap := by
          rcases H5.out.2.1.is with ⟨h1, _⟩ | ⟨_, _, h1, h2⟩
          · cases h1
          · injection h1 with _ h3 h4; simp [H.out.2.2.2.2.2] at h2; omega
        have kq := H5.out.1.lift
        obtain ⟨e, he⟩ : ∃ e, e = k + 1 := ⟨_, rfl⟩
        have w_e : IntKind.i64.wrap ((k : Int) + 1) = (e : Int) := by rw [IntWalk.i64_in _ (by omega)]; omega
        have he1 : k + 1 ≤ e := by omega
        have he2 : e ≤ k + 1 := by omega
        have HE := Lib.hid he
        clear he
        go_cut [] from 36 to 49 (fun wx => ∃ M : List Msg, Hid (Chg (· = g) w5 wx) ∧ Hid (RowM wx (slc g (N + 1) cap) M) ∧ Hid (M.length = N + 1 ∧ M.set k m = L.take k ++ m :: L.drop k))
        case first =>
          rcases Nat.lt_or_ge k N with hkN | hkN
          · have h1 : e ≤ cap := by omega
            have h2 : (e : Int) ≤ (N : Int) + 1 := by omega
            have h3 : k ≤ cap := by omega
            have h4 : (k : Int) ≤ (N : Int) + 1 := by omega
            have h5 : ¬ cap = e := by omega
            have h6 : ¬ cap = k := by omega
            refine region_upL0 [0, 1, 2, 3, 4, 5, 6, 7, 8, 9, 10, 11, 12] [] 13 [] (by kernel_rfl) (by kernel_rfl) ?_
            simp only [getOps, List.getElem?_cons_zero, List.getElem?_cons_succ]
            repeat (apply wpUp_step rfl rfl; (focus (intro W hU; go_simp; exact ⟨rfl, Up.refl _⟩)); go_simp)
            refine wpUp_nil fun W7 hW7 => ?_
            refine wpNew_nil fun W8 hW8 => ?_
            clear kq w_e
            have hU58 := (up_drew.trans hW7).trans hW8
            have row8 := H5.out.2.1.upM hU58
            have hDl : (L.drop k).length = N - k := by rw [List.length_drop, H.out.2.2.2.2.2]
            have hLl : (L ++ [zeroMsg]).length = N + 1 := by simp [H.out.2.2.2.2.2]
            refine wpList_copyM rfl (.tmp 42) (.tmp 48) rfl row8 (o := e) (K := L.drop k) (by rw [hDl, hLl]; omega) (N + 1 - e) (cap - e) ⟨g, k * 7, none⟩ (N + 1 - k) (cap - k) rfl rfl (by rw [hDl]; show N - k = min (N + 1 - k) (N + 1 - e); omega) (fun j u hj => ?_) fun W9 row9 c9 => ?_
            · have hj' : (msgCells (L ++ [zeroMsg]))[k * 7 + j]? = some u := by
                have h7 : (msgCells (L.drop k))[j]? = (msgCells L)[k * 7 + j]? := by rw [msgCells_drop, List.getElem?_drop]
                rw [h7] at hj
                rw [msgs_len, List.getElem?_append_left (by exact (List.getElem?_eq_some_iff.1 hj).1)]
                exact hj
              rw [Addr.add_mid]
              exact row8.cell (g := g) rfl _ _ hj'
            · have hc9 := (Chg.of_up (S := (· = g)) hU58).trans c9 (fun _ _ e => e)
              have H9 := Lib.hid (And.intro row9 hc9)
              clear row9 hc9 c9 row8 h1 h2 h3 h4 h5 h6
              go_wp2
              go_meet
              case rel => exact ⟨_, Lib.hid H9.out.2, Lib.hid H9.out.1, Lib.hid ⟨by rw [spl_length (by rw [hDl, hLl]; omega), hLl], by rw [HE.out]; exact ins_list (by rw [H.out.2.2.2.2.2]; omega)⟩⟩
          · have h2 : (e : Int) ≤ (N : Int) + 1 := by omega
            have h4 : (k : Int) ≤ (N : Int) + 1 := by omega
            have h6 : ¬ cap = k := by omega
            refine region_upL0 [0, 1, 2, 3, 4, 5, 6, 7, 8, 9, 10, 11, 12] [] 13 [] (by kernel_rfl) (by kernel_rfl) ?_
            simp only [getOps, List.getElem?_cons_zero, List.getElem?_cons_succ]
            repeat (apply wpUp_step rfl rfl; (focus (intro W hU; go_simp; exact ⟨rfl, Up.refl _⟩)); go_simp)
            refine wpUp_nil fun W7 hW7 => ?_
            refine wpNew_nil fun W8 hW8 => ?_
            clear kq w_e
            have hU58 := Lib.hid ((up_drew.trans hW7).trans hW8)
            have row8 := Lib.hid (H5.out.2.1.upM hU58.out)
            refine wpList_copy0 rfl (.tmp 42) (.tmp 48) rfl _ _ (N + 1 - e) (cap - e) (N + 1 - k) (cap - k) rfl rfl (by show min _ _ = 0; omega) ?_
            clear h2 h4 h6
            generalize (if cap = e then some (⟨g, 0, none⟩ : Addr) else some ⟨g, e * 7, none⟩) = dp
            go_wp2
            go_meet
            case rel => exact ⟨_, Lib.hid (Chg.of_up hU58.out), row8, Lib.hid ⟨by simp [H.out.2.2.2.2.2], by
              have hk' : k = L.length := by rw [H.out.2.2.2.2.2]; omega
              have := ins_list (L := L) (m := m) (z := zeroMsg) (k := k) (by omega)
              rw [List.drop_eq_nil_of_le (show L.length ≤ k by omega), spl_nil] at this
              rw [List.drop_eq_nil_of_le (show L.length ≤ k by omega)]
              exact this⟩⟩
        case rest =>
          obtain ⟨M, hc6, row6, hM⟩ := hcut
          obtain ⟨w6, rfl⟩ : ∃ w6 : World, w6 = wc := ⟨_, rfl⟩
          have hgq := H5.out.2.2.2.2
          have b6 := H5.out.1.chg hc6.out (fun e => hgq e.symm)
          have c6 : Chg (fun k => k = q ∨ sameBlock lv k) w w6 := H5.out.2.2.1.trans hc6.out (fun j hj e => by
            rcases H5.out.2.2.2.1 j e with h1 | h1
            · exact .inr h1
            · have := (H1.out.1.trans hU2.out).1.size; omega)
          have hWq : w.heap.size ≠ q := by omega
          have bM6 : Blk w6 w.heap.size m.list := by
            have h0 : Chg (fun k => k = q ∨ sameBlock lv k ∨ k = g) w2 w6 := HT.out.trans hc6.out (fun j hj e => .inr (.inr e))
            exact (H1.out.2.up hU2.out).chg h0 (fun e => by
              rcases e with e | e | e
              · exact hWq e
              · have := OwnR.block_lt H.out.2.1 _ e; omega
              · rcases H5.out.2.2.2.1 _ e with h1 | h1
                · have := OwnR.block_lt H.out.2.1 _ h1; omega
                · have := (H1.out.2.up hU2.out).lt (by simp); omega)
          have kq := b6.lift
          have kM := bM6.lift
          have hkN1 : k < N + 1 := by omega
          have hkN2 : (k : Int) < (N : Int) + 1 := by omega
          go_upto_region 6 with (fail)
          refine region_upL0 [0, 1, 2, 3, 4, 5, 6] [] 7 [] (by kernel_rfl) (by kernel_rfl) ?_
          simp only [getOps, List.getElem?_cons_zero, List.getElem?_cons_succ]
          repeat (apply wpUp_step rfl rfl; (focus (intro W hU; go_simp; exact ⟨rfl, Up.refl _⟩)); go_simp)
          refine wpUp_nil fun W7 hW7 => ?_
          refine wpNew_nil fun W8 hW8 => ?_
          clear kq kM w_e
          have hU68 := (up_drew.trans hW7).trans hW8
          have hMl := hM.out.1
          refine wpList_storeM rfl _ _ rfl m k (row6.out.upM hU68) (by rw [hMl]; exact hkN1) rfl rfl fun W9 r9 c9 => ?_
          have c69 := (Chg.of_up (S := (· = g)) hU68).trans c9 (fun _ _ e => e)
          rw [hM.out.2] at r9
          have H9 := Lib.hid (And.intro r9 (And.intro (b6.chg c69 (fun e => hgq e.symm)) (c6.trans c69 (fun j hj e => by
            rcases H5.out.2.2.2.1 j e with h1 | h1
            · exact .inr h1
            · have := (H1.out.1.trans hU2.out).1.size; omega))))
          clear r9 c9 c69 c6 b6 bM6 hMl hcap
          go_wp2
          go_end0
          exact ⟨rfl, H9.out.2.2, _, k, HI.out, H9.out.2.1, H9.out.1, fun j hj => by
            rcases H5.out.2.2.2.1 j (same_slc.1 hj) with h1 | h1
            · exact .inl h1
            · right; have := (H1.out.1.trans hU2.out).1.size; omega⟩
      · have h1 := (hb1.out rfl).1
        have HF := Lib.hid (hb1.out rfl).2
        clear hb1 hb2
        go_wp2
        exact ⟨⟨k - 1, by omega, by rw [show ((k - 1 : Nat) : Int) = (k : Int) - 1 by omega], hU2, Lib.hid (fun j y hj hy => by
          rcases Nat.lt_or_ge j k with h2 | h2
          · have : j = k - 1 := by omega
            subst this
            exact HF.out y hy
          · exact hall.out j y h2 hy)⟩, by simp [intOf]; omega⟩
end Go.Proofs.YtalmjdlcogdpmaaGreatDoor

namespace Go.Proofs.YtalmjdlcogdpmaaGreatDoor
/-- A bottom in order, and rungs, the last one the lowest. -/
structure LadO (L : List Msg) (Rs : List (List Msg)) : Prop where
  s : Srt L 0 L.length
  ne : ∀ R ∈ Rs, R ≠ []
  lb : ∀ x ∈ L, ∀ R ∈ Rs, ∀ y ∈ R, befB y x = false
  rr : ∀ (i j : Nat) (R Q : List Msg), i < j → Rs[i]? = some R → Rs[j]? = some Q → ∀ x ∈ Q, ∀ y ∈ R, befB y x = false
def ladAll (L : List Msg) (Rs : List (List Msg)) : List Msg := L ++ Rs.flatten
theorem ladAll_len (L : List Msg) (Rs : List (List Msg)) : (ladAll L Rs).length = ladN L Rs := by
  unfold ladAll ladN
  rw [List.length_append, List.length_flatten]
/-- Where the rungs end that lie above a message. -/
structure NAt (Rs : List (List Msg)) (m : Msg) (n : Nat) : Prop where
  le : n ≤ Rs.length
  no : ∀ (j : Nat) (R : List Msg), n ≤ j → Rs[j]? = some R → abvB R m = false
  yes : 0 < n → ∀ R, Rs[n - 1]? = some R → abvB R m = true
theorem NAt.above {L : List Msg} {Rs : List (List Msg)} {m : Msg} {n : Nat} (h : NAt Rs m n) (o : LadO L Rs) : ∀ (i : Nat) (R : List Msg), i < n → Rs[i]? = some R → ∀ y ∈ R, befB y m = false := by
  intro i R hi hR y hy
  obtain ⟨Q, hQ⟩ : ∃ Q, Rs[n - 1]? = some Q := ⟨Rs[n - 1]'(by have := h.le; omega), List.getElem?_eq_getElem _⟩
  have hab := h.yes (by omega) Q hQ
  unfold abvB at hab
  rw [List.all_eq_true] at hab
  rcases Nat.lt_or_ge i (n - 1) with h1 | h1
  · have hne := o.ne Q (List.mem_of_getElem? hQ)
    obtain ⟨z, hz⟩ := List.exists_mem_of_ne_nil Q hne
    have h2 := hab z hz
    have h3 := o.rr i (n - 1) R Q h1 hR hQ z hz y hy
    exact befB_asymm (bef_of_nbef h2 h3)
  · have : i = n - 1 := by omega
    subst this
    rw [hR] at hQ
    cases hQ
    exact befB_asymm (hab y hy)
theorem NAt.below {L : List Msg} {Rs : List (List Msg)} {m : Msg} {n : Nat} (h : NAt Rs m n) (o : LadO L Rs) (hn : n < Rs.length) : (∀ x ∈ L, befB m x = false) ∧ ∀ (j : Nat) (Q : List Msg), n < j → Rs[j]? = some Q → ∀ x ∈ Q, befB m x = false := by
  obtain ⟨R, hR⟩ : ∃ R, Rs[n]? = some R := ⟨Rs[n], List.getElem?_eq_getElem _⟩
  have := h.no n R (Nat.le_refl _) hR
  unfold abvB at this
  rw [List.all_eq_false] at this
  obtain ⟨z, hz, hzm⟩ := this
  have hzm : befB m z = false := by simpa using hzm
  exact ⟨fun x hx => nbef_trans (o.lb x hx R (List.mem_of_getElem? hR) z hz) hzm, fun j Q hj hQ x hx => nbef_trans (o.rr n j R Q hj hR hQ x hx z hz) hzm⟩
theorem mem_ins {L : List Msg} {m x : Msg} {k : Nat} (h : x ∈ L.take k ++ m :: L.drop k) : x = m ∨ x ∈ L := by
  rcases List.mem_append.1 h with h | h
  · exact .inr (List.mem_of_mem_take h)
  · rcases List.mem_cons.1 h with h | h
    · exact .inl h
    · exact .inr (List.mem_of_mem_drop h)
theorem ins_perm (L : List Msg) (m : Msg) (k : Nat) : (L.take k ++ m :: L.drop k).Perm (L ++ [m]) := by
  refine List.perm_middle.trans ?_
  rw [List.take_append_drop]
  exact (List.perm_append_comm (l₁ := L) (l₂ := [m])).symm
theorem InsAt.srt {L : List Msg} {m : Msg} {k : Nat} (h : InsAt L m k) (hs : Srt L 0 L.length) : Srt (L.take k ++ m :: L.drop k) 0 (L.take k ++ m :: L.drop k).length := by
  have hk := h.le
  have hl : (L.take k ++ m :: L.drop k).length = L.length + 1 := by simp; omega
  have g : ∀ i, (L.take k ++ m :: L.drop k)[i]? = if i < k then L[i]? else if i = k then some m else L[i - 1]? := fun i => by
    by_cases h1 : i < k
    · rw [if_pos h1, List.getElem?_append_left (by rw [List.length_take]; omega), List.getElem?_take_of_lt h1]
    · rw [if_neg h1, List.getElem?_append_right (by rw [List.length_take]; omega), List.length_take, Nat.min_eq_left hk]
      by_cases h2 : i = k
      · rw [if_pos h2, h2, Nat.sub_self]; rfl
      · rw [if_neg h2, show i - k = (i - k - 1) + 1 by omega, List.getElem?_cons_succ, List.getElem?_drop]
        congr 1; omega
  have lo : ∀ (p : Nat) (x : Msg), p < k → L[p]? = some x → befB m x = false := fun p x hp hx => by
    obtain ⟨z, hz⟩ : ∃ z, L[k - 1]? = some z := ⟨L[k - 1]'(by omega), List.getElem?_eq_getElem _⟩
    exact nbef_trans (hs.le (Nat.zero_le _) (show p ≤ k - 1 by omega) (by omega) hx hz) (h.lo (by omega) z hz)
  intro i j x y h1 h2 h3 hx hy
  rw [hl] at h3
  rw [g] at hx hy
  by_cases e1 : i < k
  · rw [if_pos e1] at hx
    by_cases e2 : j < k
    · rw [if_pos e2] at hy
      exact hs i j x y h1 h2 (by omega) hx hy
    · rw [if_neg e2] at hy
      by_cases e3 : j = k
      · rw [if_pos e3] at hy; cases hy; exact lo i x e1 hx
      · rw [if_neg e3] at hy
        exact hs i (j - 1) x y h1 (by omega) (by omega) hx hy
  · rw [if_neg e1] at hx
    rw [if_neg (by omega), if_neg (by omega)] at hy
    by_cases e3 : i = k
    · rw [if_pos e3] at hx; cases hx
      exact befB_asymm (h.hi (j - 1) y (by omega) hy)
    · rw [if_neg e3] at hx
      exact hs (i - 1) (j - 1) x y (by omega) (by omega) (by omega) hx hy
theorem LadO.bottom {L : List Msg} {Rs : List (List Msg)} {m : Msg} {k : Nat} (o : LadO L Rs) (h : NAt Rs m Rs.length) (hi : InsAt L m k) : LadO (L.take k ++ m :: L.drop k) Rs :=
  ⟨hi.srt o.s, o.ne, fun x hx R hR y hy => by
    rcases mem_ins hx with rfl | hx
    · obtain ⟨i, hi⟩ := List.getElem?_of_mem hR
      exact h.above o i R (List.getElem?_eq_some_iff.1 hi).1 hi y hy
    · exact o.lb x hx R hR y hy, o.rr⟩
theorem bhd_all {L : List Msg} {m : Msg} (hs : Srt L 0 L.length) (hb : bhdB L m = true) : ∀ x ∈ L, befB m x = false := by
  intro x hx
  obtain ⟨i, hi⟩ := List.getElem?_of_mem hx
  have hil := (List.getElem?_eq_some_iff.1 hi).1
  unfold bhdB at hb
  obtain ⟨z, hz⟩ : ∃ z, L[L.length - 1]? = some z := ⟨L[L.length - 1]'(by omega), List.getElem?_eq_getElem _⟩
  rw [List.getLast?_eq_getElem?, hz] at hb
  have hb : befB m z = false := by simpa using hb
  exact nbef_trans (hs.le (Nat.zero_le _) (show i ≤ L.length - 1 by omega) (by omega) hi hz) hb
theorem LadO.rung {L : List Msg} {Rs : List (List Msg)} {m : Msg} (o : LadO L Rs) (h : NAt Rs m Rs.length) (hb : bhdB L m = true) : LadO L (Rs ++ [[m]]) :=
  ⟨o.s, fun R hR => by
    rcases List.mem_append.1 hR with h1 | h1
    · exact o.ne R h1
    · rw [List.mem_singleton] at h1; subst h1; simp, fun x hx R hR y hy => by
    rcases List.mem_append.1 hR with h1 | h1
    · exact o.lb x hx R h1 y hy
    · rw [List.mem_singleton] at h1; subst h1
      rw [List.mem_singleton] at hy; subst hy
      exact bhd_all o.s hb x hx, fun i j R Q hij hR hQ x hx y hy => by
    have hj := (List.getElem?_eq_some_iff.1 hQ).1
    rw [List.length_append, List.length_singleton] at hj
    rw [List.getElem?_append_left (by omega)] at hR
    rcases Nat.lt_or_ge j Rs.length with h1 | h1
    · rw [List.getElem?_append_left h1] at hQ
      exact o.rr i j R Q hij hR hQ x hx y hy
    · have : j = Rs.length := by omega
      subst this
      rw [List.getElem?_append_right (Nat.le_refl _), Nat.sub_self] at hQ
      simp at hQ
      subst hQ
      rw [List.mem_singleton] at hx
      subst hx
      exact h.above o i R hij hR y hy⟩
theorem LadO.into {L : List Msg} {Rs : List (List Msg)} {m : Msg} {n : Nat} {R0 : List Msg} (o : LadO L Rs) (h : NAt Rs m n) (hn : n < Rs.length) (hR0 : Rs[n]? = some R0) : LadO L (Rs.set n (R0 ++ [m])) := by
  have hb := h.below o hn
  have key : ∀ (i : Nat) (R : List Msg), (Rs.set n (R0 ++ [m]))[i]? = some R → (i = n ∧ R = R0 ++ [m]) ∨ (i ≠ n ∧ Rs[i]? = some R) := fun i R hR => by
    rw [List.getElem?_set] at hR
    by_cases e : n = i
    · rw [if_pos e, if_pos hn] at hR
      cases hR
      exact .inl ⟨e.symm, rfl⟩
    · rw [if_neg e] at hR
      exact .inr ⟨fun h => e h.symm, hR⟩
  refine ⟨o.s, fun R hR => ?_, fun x hx R hR y hy => ?_, fun i j R Q hij hR hQ x hx y hy => ?_⟩
  · obtain ⟨i, hi⟩ := List.getElem?_of_mem hR
    rcases key i R hi with ⟨_, rfl⟩ | ⟨_, h1⟩
    · simp
    · exact o.ne R (List.mem_of_getElem? h1)
  · obtain ⟨i, hi⟩ := List.getElem?_of_mem hR
    rcases key i R hi with ⟨_, rfl⟩ | ⟨_, h1⟩
    · rcases List.mem_append.1 hy with h2 | h2
      · exact o.lb x hx R0 (List.mem_of_getElem? hR0) y h2
      · rw [List.mem_singleton] at h2; subst h2; exact hb.1 x hx
    · exact o.lb x hx R (List.mem_of_getElem? h1) y hy
  · rcases key i R hR with ⟨rfl, rfl⟩ | ⟨hi, h1⟩
    · rcases key j Q hQ with ⟨rfl, _⟩ | ⟨_, h2⟩
      · omega
      · rcases List.mem_append.1 hy with h3 | h3
        · exact o.rr i j R0 Q hij hR0 h2 x hx y h3
        · rw [List.mem_singleton] at h3; subst h3; exact hb.2 j Q hij h2 x hx
    · rcases key j Q hQ with ⟨rfl, rfl⟩ | ⟨_, h2⟩
      · rcases List.mem_append.1 hx with h3 | h3
        · exact o.rr i j R R0 hij h1 hR0 x h3 y hy
        · rw [List.mem_singleton] at h3; subst h3; exact h.above o i R hij h1 y hy
      · exact o.rr i j R Q hij h1 h2 x hx y hy
theorem flatten_set {Rs : List (List Msg)} {n : Nat} {R0 : List Msg} {m : Msg} (h : Rs[n]? = some R0) : ((Rs.set n (R0 ++ [m])).flatten).Perm (Rs.flatten ++ [m]) := by
  induction Rs generalizing n with
  | nil => simp at h
  | cons R Rs ih =>
    cases n with
    | zero =>
      simp at h
      subst h
      simp only [List.set_cons_zero, List.flatten_cons, List.append_assoc]
      exact List.Perm.append_left R (List.perm_append_comm (l₁ := [m]) (l₂ := Rs.flatten))
    | succ n =>
      simp at h
      simp only [List.set_cons_succ, List.flatten_cons, List.append_assoc]
      exact List.Perm.append_left _ (ih h)
theorem ladAll_bottom (L : List Msg) (Rs : List (List Msg)) (m : Msg) (k : Nat) : (ladAll (L.take k ++ m :: L.drop k) Rs).Perm (ladAll L Rs ++ [m]) := by
  unfold ladAll
  refine (List.Perm.append_right _ (ins_perm L m k)).trans ?_
  rw [List.append_assoc, List.append_assoc]
  exact List.Perm.append_left L (List.perm_append_comm (l₁ := [m]) (l₂ := Rs.flatten))
theorem ladAll_rung (L : List Msg) (Rs : List (List Msg)) (m : Msg) : (ladAll L (Rs ++ [[m]])).Perm (ladAll L Rs ++ [m]) := by
  unfold ladAll
  simp
theorem ladAll_into {L : List Msg} {Rs : List (List Msg)} {m : Msg} {n : Nat} {R0 : List Msg} (h : Rs[n]? = some R0) : (ladAll L (Rs.set n (R0 ++ [m]))).Perm (ladAll L Rs ++ [m]) := by
  unfold ladAll
  rw [List.append_assoc]
  exact List.Perm.append_left L (flatten_set h)
end Go.Proofs.YtalmjdlcogdpmaaGreatDoor

namespace Go.Proofs.YtalmjdlcogdpmaaGreatDoor
open Go.RowKit
attribute [local go_sem] upUpon_value upUpon_enter upUpon_skip upUpon_row ucUpon_value ucUpon_skip ucUpon_enter ucUpon_row

theorem calday_at (q : Nat) (T : Int) (t : Nat) (hT : T = t) (ht : t ≤ 2000000000) (w : World) (hb : w.cell? ⟨q, 0, none⟩ = some (.int .i64 16)) : Calls Tryz.prog 143 #[.pointer (some ⟨q, 0, none⟩), .int .i64 T] w fun e w' => e = .returned (.int .i64 (t / 16 : Nat)) ∧ w' = w := by
  subst hT
  exact calday_any q t ht w hb
theorem made_msgs (N : Nat) : (madeCells (zeroMsg.list.toArray) (N * 7)).toList = msgCells (List.replicate N zeroMsg) := by
  apply List.ext_getElem?
  intro i
  rcases Nat.lt_or_ge i (N * 7) with h | h
  · obtain ⟨a, r, hr, rfl⟩ : ∃ a r, r < 7 ∧ i = a * 7 + r := ⟨i / 7, i % 7, Nat.mod_lt _ (by omega), by omega⟩
    rw [msgCells_at (m := zeroMsg) (by rw [List.getElem?_replicate, if_pos (by omega)]) hr, madeCells, Array.toList_map, List.getElem?_map, Array.toList_range, List.getElem?_range h]
    simp only [Option.map_some, List.size_toArray]
    rw [show (a * 7 + r) % zeroMsg.list.length = r by show (a * 7 + r) % 7 = r; omega]
    obtain rfl | rfl | rfl | rfl | rfl | rfl | rfl : r = 0 ∨ r = 1 ∨ r = 2 ∨ r = 3 ∨ r = 4 ∨ r = 5 ∨ r = 6 := by omega
    all_goals rfl
  · rw [List.getElem?_eq_none (by simp [size_madeCells]; exact h), List.getElem?_eq_none (by rw [msgCells_length]; simpa using h)]
theorem row_made (W : World) (N : Nat) (hN : N ≤ 1000000) :
    ∃ W', (Instr.makeSlice 39 (.int .i64 (N : Int)) (.int .i64 (N : Int))).run Tryz.prog W = .ok (slc W.heap.size N N) W' ∧ Up W W' ∧ RowM W' (slc W.heap.size N N) (List.replicate N zeroMsg) ∧ W'.heap.size = W.heap.size + 1 := by
  obtain ⟨i0, hi0, hz0, hz1, hz2⟩ := info_parts infoMsg
  have hr := run_make (P := Tryz.prog) W 39 43 i0 _ Tryz.underlying39 hi0 hz0 .i64 .i64 N N (by omega) (Int.le_refl _) (by rw [hz2]; omega) (by omega)
  simp only [Int.toNat_natCast, hz1] at hr
  refine ⟨_, hr, alloc_up _ _ _, ?_, by simp⟩
  have hm := made_msgs N
  unfold RowM
  rw [List.length_replicate]
  refine ⟨by rw [msgCells_length]; simp, .inr ⟨W.heap.size, N, _, rfl, heap_alloc_new W _, Nat.le_refl _, by unfold maxLen; omega, by rw [size_madeCells]; exact Nat.le_refl _, ?_⟩⟩
  rw [← hm]
  exact List.take_of_length_le (by simp [size_madeCells])
theorem countP_lo {L : List Msg} {m : Msg} (hs : Srt L 0 L.length) : ∀ (j : Nat) (y : Msg), j < L.countP (fun x => befB x m) → L[j]? = some y → befB m y = false := by
  intro j y hj hy
  cases hc : befB m y with
  | false => rfl
  | true =>
  exfalso
  have hjl := (List.getElem?_eq_some_iff.1 hy).1
  have h1 : (L.drop j).countP (fun x => befB x m) = 0 := by
    rw [List.countP_eq_zero]
    intro z hz
    obtain ⟨i, hi⟩ := List.getElem?_of_mem hz
    rw [List.getElem?_drop] at hi
    rcases Nat.eq_zero_or_pos i with h0 | h0
    · subst h0
      rw [Nat.add_zero, hy] at hi
      cases hi
      simp [befB_asymm hc]
    · have := hs j (j + i) y z (Nat.zero_le _) (by omega) (List.getElem?_eq_some_iff.1 hi).1 hy hi
      simp [befB_asymm (bef_of_nbef hc this)]
  have h2 := List.countP_append (p := fun x => befB x m) (l₁ := L.take j) (l₂ := L.drop j)
  rw [List.take_append_drop, h1] at h2
  have h3 : (L.take j).countP (fun x => befB x m) ≤ j := Nat.le_trans List.countP_le_length (by rw [List.length_take]; omega)
  omega
theorem insAt_of {L : List Msg} {m : Msg} {k : Nat} (hs : Srt L 0 L.length) (hk : k ≤ L.length) (hlo : ∀ (j : Nat) (y : Msg), j < k → L[j]? = some y → befB m y = false) (hhi : ∀ y, L[k]? = some y → befB m y = true) : InsAt L m k :=
  ⟨hk, fun j y hj hy => by
    rcases Nat.eq_or_lt_of_le hj with h | h
    · subst h; exact hhi y hy
    · have hl := (List.getElem?_eq_some_iff.1 hy).1
      have hx : L[k]? = some (L[k]'(by omega)) := List.getElem?_eq_getElem _
      exact bef_of_nbef (hhi _ hx) (hs k j _ y (Nat.zero_le _) h hl hx hy), fun h0 y hy => hlo (k - 1) y (by omega) hy⟩
theorem put_list {L : List Msg} {m : Msg} {k : Nat} (h : k ≤ L.length) : spl ((spl (List.replicate (L.length + 1) zeroMsg) 0 (L.take k)).set k m) (k + 1) (L.drop k) = L.take k ++ m :: L.drop k := by
  have hl1 : 0 + (L.take k).length ≤ (List.replicate (L.length + 1) zeroMsg).length := by simp; omega
  have hl2 : k + 1 + (L.drop k).length ≤ ((spl (List.replicate (L.length + 1) zeroMsg) 0 (L.take k)).set k m).length := by
    rw [List.length_set, spl_length hl1]; simp; omega
  have htk : (L.take k).length = k := by rw [List.length_take]; omega
  apply List.ext_getElem?
  intro i
  rw [spl_get hl2]
  rcases Nat.lt_trichotomy i k with h1 | h1 | h1
  · rw [if_pos (by omega), List.getElem?_set_ne (by omega), spl_get hl1, if_neg (by omega), if_pos (by omega), List.getElem?_append_left (by omega)]
    simp
  · subst h1
    rw [if_pos (by omega), List.getElem?_set_self (by rw [spl_length hl1]; simp; omega), List.getElem?_append_right (by omega), htk]
    simp
  · rw [if_neg (by omega), List.getElem?_append_right (by omega), htk]
    obtain ⟨d, rfl⟩ : ∃ d, i = k + 1 + d := ⟨i - k - 1, by omega⟩
    rw [show k + 1 + d - k = d + 1 by omega, List.getElem?_cons_succ]
    by_cases h2 : k + 1 + d < k + 1 + (L.drop k).length
    · rw [if_pos h2, show k + 1 + d - (k + 1) = d by omega]
    · rw [if_neg h2, List.getElem?_eq_none (by rw [List.length_set, spl_length hl1]; simp at h2 ⊢; omega), List.getElem?_eq_none (by omega)]
end Go.Proofs.YtalmjdlcogdpmaaGreatDoor
