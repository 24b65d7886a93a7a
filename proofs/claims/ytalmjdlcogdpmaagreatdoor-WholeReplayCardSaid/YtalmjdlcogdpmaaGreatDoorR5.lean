/- Contracts and plain laws for the statement of this claim; no condition. Here: The contract of vm.Run, where the world, the state and the message may be. The law of drawn regions in two stages: head, new memory, head again, new memory, tail. The law of drawn regions with two ways of growing: a head that only makes memory; then a tail, in its own order, that turns blocks of S only, while reads of other blocks may still come. The law of drawn regions by a plan: heads, single operations that only make memory, two of them in either order, and a tail. The law of drawn regions (RLaw) for code that is walked inside a fence (an iterator's body, a round's body): the wide fence, in a round or not. append among operations that only make memory (RLaw), and in a tail inside the fence (RIn). Worlds with boxes laid behind: named, with what lies in them. -/
import Derived.Test.YtalmjdlcogdpmaaGreatDoorR4
import Derived.Test.YtalmjdlcogdpmaaGreatDoorR3
import Derived.OrdersIn
import Derived.TacticsIn
import Derived.RangeFuncCalls
import Derived.Deep.MidRow
import Derived.Laws.ResultCell
set_option linter.unusedVariables false
set_option linter.unusedSimpArgs false

namespace Go.Proofs.YtalmjdlcogdpmaaGreatDoor
open Go.RowKit
attribute [local go_sem] upUpon_value upUpon_enter upUpon_skip upUpon_row ucUpon_value ucUpon_skip ucUpon_enter ucUpon_row

/-- api.State. -/
structure Sta where
  r : Nat → Int
  d : Int
  n : Int
abbrev Sta.cells (s : Sta) : Array Value := #[.int .i64 (s.r 0), .int .i64 (s.r 1), .int .i64 (s.r 2), .int .i64 (s.r 3), .int .i64 (s.r 4), .int .i64 (s.r 5), .int .i64 (s.r 6), .int .i64 (s.r 7), .int .i64 s.d, .int .i64 s.n]
abbrev Sta.val (s : Sta) : Value := .agg s.cells
structure GoodSta (s : Sta) : Prop where
  r : ∀ i, I64 (s.r i)
  d0 : 0 ≤ s.d
  d1 : s.d ≤ 1125899906842624
  n0 : 0 ≤ s.n
  n1 : s.n ≤ 1125899906842624
/-- Where a handler begins. -/
def startOf (s : Sta) : St := ⟨fun i => if i < 8 then s.r i else 0, s.d, [], 0⟩
structure VmOut where
  s : Sta
  o : List Out
  f : Int
/-- vm.Run. -/
def vmRun (E : Env) (s : Sta) : VmOut :=
  match runF E 4096 (startOf s) with
  | .ok t => ⟨⟨fun i => if i < 8 then t.r i else 0, t.d, s.n + t.o.length⟩, t.o, 0⟩
  | .error f => ⟨s, [], f⟩
def VmPost (E : Env) (s : Sta) (w : World) (e : Ending) (w' : World) : Prop :=
  ∃ vo, e = .returned (.tuple #[(vmRun E s).s.val, vo, .int .i64 (vmRun E s).f]) ∧ Up w w' ∧ OwnR w' 146 3 vo (vmRun E s).o.length (outCells (vmRun E s).o) ∧ ∀ k, sameBlock vo k → w.heap.size ≤ k

theorem vmErr_zero {np nl : Nat} {p : Nat → Ins} {me : Int} {l : Nat → Lnk} (h : vmErr np p me nl l = 0) : np ≤ 256 ∧ (∀ i, i < np → insB p np i = true) ∧ laneB me = true ∧ nl ≤ 1024 ∧ ∀ i, i < nl → lnkB (l i) = true := by
  unfold vmErr at h
  split at h
  · rename_i h0; exact absurd h h0
  · rename_i h0
    have h0 : codeErr np p = 0 := Classical.not_not.1 h0
    unfold codeErr at h0
    split at h0
    · cases h0
    · rename_i h1
      split at h0
      · rename_i h2
        split at h
        · rename_i h3
          split at h
          · rename_i h4; exact ⟨by omega, progB_yes h2, h3.1, h3.2, lnksB_yes h4⟩
          · cases h
        · cases h
      · cases h0

theorem cpu_of_blk {P : Nat} {pv pl : Option Addr} {cv cl : Nat} {E : Env} {s : Sta} {w : World} (h : Blk w P [.slice pv E.np cv, .int .i64 E.me, .slice pl E.nl cl, .int .u64 E.seed, .int .i64 E.m.t, .int .i64 E.m.f, .int .i64 E.m.s, .int .i64 E.m.to, .int .i64 E.m.v, .int .i64 E.m.u, .bool E.m.an, .int .i64 (s.r 0), .int .i64 (s.r 1), .int .i64 (s.r 2), .int .i64 (s.r 3), .int .i64 (s.r 4), .int .i64 (s.r 5), .int .i64 (s.r 6), .int .i64 (s.r 7), .int .i64 0, .int .i64 0, .int .i64 0, .int .i64 0, .int .i64 0, .int .i64 0, .int .i64 0, .int .i64 0, .int .i64 s.d, .slice none 0 0, .int .i64 0]) (hf : ∀ j, w.frozen? ⟨P, j, none⟩ = false) :
    CpuIs w P (.slice pv E.np cv) (.slice pl E.nl cl) E.me E.seed E.m ⟨(startOf s).r, (startOf s).d, .slice none 0 0, (startOf s).a⟩ :=
  ⟨h.at (i := 0) rfl, h.at (i := 1) rfl, h.at (i := 2) rfl, h.at (i := 3) rfl, h.at (i := 4) rfl, h.at (i := 5) rfl, h.at (i := 6) rfl, h.at (i := 7) rfl, h.at (i := 8) rfl,
   fun i hi => h.at (i := 11 + i) (by rcases i with _ | _ | _ | _ | _ | _ | _ | _ | _ | _ | _ | _ | _ | _ | _ | _ | i <;> first | rfl | omega),
   h.at (i := 27) rfl, h.at (i := 28) rfl, h.at (i := 29) rfl, fun i _ => hf i⟩
theorem runF_good {E : Env} (hE : GoodE E) (hp : ∀ i, i < E.np → insB E.p E.np i = true) : ∀ (n : Nat) (s t : St) {k : Int}, GoodS E k s → runF E n s = .ok t → GoodS E (k + n) t
  | 0, s, t, k, hs, h => by
    injection h with h; subst h
    exact ⟨hs.r, hs.d0, by have := hs.d1; omega, hs.a0, hs.a1, hs.o⟩
  | n + 1, s, t, k, hs, h => by
    by_cases ha : s.a < E.np
    · rw [runF, if_pos ha] at h
      have hq : s.a.toNat < E.np := by have := hs.a0; omega
      have hm := hp _ hq
      unfold insB at hm
      rcases hst : step1 E (E.p s.a.toNat) { s with a := s.a + 1 } with f | s2
      · rw [hst] at h; cases h
      · rw [hst] at h
        have h2 := step1_good (s := { s with a := s.a + 1 }) (n := k) hE hm ⟨hs.r, hs.d0, hs.d1, by have := hs.a0; show 0 ≤ s.a + 1; omega, by show s.a + 1 ≤ _; omega, hs.o⟩ hst
        have h3 := runF_good hE hp n s2 t h2 h
        rw [show k + ((n + 1 : Nat) : Int) = k + 1 + n by omega]
        exact h3
    · rw [runF_end ha] at h
      injection h with h; subst h
      exact ⟨hs.r, hs.d0, by have := hs.d1; omega, hs.a0, hs.a1, hs.o⟩
theorem start_good {E : Env} {s : Sta} (h : GoodSta s) : GoodS E 0 (startOf s) :=
  ⟨fun i => by show I64 (if i < 8 then s.r i else 0); split; exact h.r i; exact ⟨by omega, by omega⟩, h.d0, by have := h.d1; show s.d ≤ _; omega, by show (0 : Int) ≤ 0; omega, by show (0 : Int) ≤ E.np; omega, by show 0 ≤ 8; omega⟩
set_option maxRecDepth 100000 in
set_option maxHeartbeats 2000000 in
theorem vmrun_any (pv pl : Option Addr) (cv cl : Nat) (E : Env) (hE : GoodE E) (hok : vmErr E.np E.p E.me E.nl E.l = 0) (s : Sta) (hs : GoodSta s) (hm : chkB E.m = true) (w : World)
    (hg : w.cell? ⟨0, 0, none⟩ = some (.iface 151 (.agg #[.pointer (some ⟨1, 96, none⟩)])))
    (hi : InsSlice w (.slice pv E.np cv) E.np E.p) (hl : LnkSlice w (.slice pl E.nl cl) E.nl E.l) (hlp : ∀ k, sameBlock (.slice pl E.nl cl) k → k < w.heap.size) (hip : ∀ k, sameBlock (.slice pv E.np cv) k → k < w.heap.size) :
    Calls Tryz.prog 42 #[.agg #[.slice pv E.np cv, .int .i64 E.me, .slice pl E.nl cl, .int .u64 E.seed], s.val, E.m.val] w (VmPost E s w) := by
  obtain ⟨hnp, hp, _, hnl, _⟩ := vmErr_zero hok
  have hmx := run_mx
  have hmn := run_mn
  have hchk : chkv E.m = 0 := (chkv_yes hm).symm
  have hb1 : ¬ mnv s.d s.n < 0 := by unfold mnv; have := hs.d0; have := hs.n0; split <;> omega
  have hb2 : ¬ 1125899906842624 < mxv s.d s.n := by unfold mxv; have := hs.d1; have := hs.n1; split <;> omega
  have HCH := Lib.hid hchk
  have HOK := Lib.hid hok
  have HS := Lib.hid hs
  have HI := Lib.hid hi
  have HL := Lib.hid hl
  have HG := Lib.hid hg
  have HB := Lib.hid (And.intro hb1 hb2)
  clear hchk hok hs hi hl hg hm hb1 hb2
  simp only [Sta.val, Sta.cells, Msg.val]
  go_enter Tryz.func42, Tryz.ntmps42
  go_upto_region 1 with (fail)
  have hA : Up w ((((w.alloc (.cells #[.slice pv E.np cv, .int .i64 E.me, .slice pl E.nl cl, .int .u64 E.seed] 26)).alloc (.cells #[.int .i64 (s.r 0), .int .i64 (s.r 1), .int .i64 (s.r 2), .int .i64 (s.r 3), .int .i64 (s.r 4), .int .i64 (s.r 5), .int .i64 (s.r 6), .int .i64 (s.r 7), .int .i64 s.d, .int .i64 s.n] 34)).alloc (.cells #[.int .i64 E.m.t, .int .i64 E.m.f, .int .i64 E.m.s, .int .i64 E.m.to, .int .i64 E.m.v, .int .i64 E.m.u, .bool E.m.an] 43)).alloc (.cells #[.int .i64 0, .int .i64 0, .int .i64 0, .int .i64 0, .int .i64 0, .int .i64 0, .int .i64 0, .int .i64 0, .int .i64 0, .int .i64 0] 34)) := ((((alloc_up _ _ _).trans (alloc_up _ _ _)).trans (alloc_up _ _ _)).trans (alloc_up _ _ _))
  have bA := ((((Blk.alloc w [.slice pv E.np cv, .int .i64 E.me, .slice pl E.nl cl, .int .u64 E.seed] 26).up (alloc_up _ #[.int .i64 (s.r 0), .int .i64 (s.r 1), .int .i64 (s.r 2), .int .i64 (s.r 3), .int .i64 (s.r 4), .int .i64 (s.r 5), .int .i64 (s.r 6), .int .i64 (s.r 7), .int .i64 s.d, .int .i64 s.n] 34)).up (alloc_up _ #[.int .i64 E.m.t, .int .i64 E.m.f, .int .i64 E.m.s, .int .i64 E.m.to, .int .i64 E.m.v, .int .i64 E.m.u, .bool E.m.an] 43)).up (alloc_up _ #[.int .i64 0, .int .i64 0, .int .i64 0, .int .i64 0, .int .i64 0, .int .i64 0, .int .i64 0, .int .i64 0, .int .i64 0, .int .i64 0] 34))
  have bB := (((Blk.alloc (w.alloc (.cells #[.slice pv E.np cv, .int .i64 E.me, .slice pl E.nl cl, .int .u64 E.seed] 26)) [.int .i64 (s.r 0), .int .i64 (s.r 1), .int .i64 (s.r 2), .int .i64 (s.r 3), .int .i64 (s.r 4), .int .i64 (s.r 5), .int .i64 (s.r 6), .int .i64 (s.r 7), .int .i64 s.d, .int .i64 s.n] 34).up (alloc_up _ #[.int .i64 E.m.t, .int .i64 E.m.f, .int .i64 E.m.s, .int .i64 E.m.to, .int .i64 E.m.v, .int .i64 E.m.u, .bool E.m.an] 43)).up (alloc_up _ #[.int .i64 0, .int .i64 0, .int .i64 0, .int .i64 0, .int .i64 0, .int .i64 0, .int .i64 0, .int .i64 0, .int .i64 0, .int .i64 0] 34))
  have bC := ((Blk.alloc ((w.alloc (.cells #[.slice pv E.np cv, .int .i64 E.me, .slice pl E.nl cl, .int .u64 E.seed] 26)).alloc (.cells #[.int .i64 (s.r 0), .int .i64 (s.r 1), .int .i64 (s.r 2), .int .i64 (s.r 3), .int .i64 (s.r 4), .int .i64 (s.r 5), .int .i64 (s.r 6), .int .i64 (s.r 7), .int .i64 s.d, .int .i64 s.n] 34)) [.int .i64 E.m.t, .int .i64 E.m.f, .int .i64 E.m.s, .int .i64 E.m.to, .int .i64 E.m.v, .int .i64 E.m.u, .bool E.m.an] 43).up (alloc_up _ #[.int .i64 0, .int .i64 0, .int .i64 0, .int .i64 0, .int .i64 0, .int .i64 0, .int .i64 0, .int .i64 0, .int .i64 0, .int .i64 0] 34))
  have bD := (Blk.alloc (((w.alloc (.cells #[.slice pv E.np cv, .int .i64 E.me, .slice pl E.nl cl, .int .u64 E.seed] 26)).alloc (.cells #[.int .i64 (s.r 0), .int .i64 (s.r 1), .int .i64 (s.r 2), .int .i64 (s.r 3), .int .i64 (s.r 4), .int .i64 (s.r 5), .int .i64 (s.r 6), .int .i64 (s.r 7), .int .i64 s.d, .int .i64 s.n] 34)).alloc (.cells #[.int .i64 E.m.t, .int .i64 E.m.f, .int .i64 E.m.s, .int .i64 E.m.to, .int .i64 E.m.v, .int .i64 E.m.u, .bool E.m.an] 43)) [.int .i64 0, .int .i64 0, .int .i64 0, .int .i64 0, .int .i64 0, .int .i64 0, .int .i64 0, .int .i64 0, .int .i64 0, .int .i64 0] 34)
  simp only [World.size_alloc] at bB bC bD
  generalize ((((w.alloc (.cells #[.slice pv E.np cv, .int .i64 E.me, .slice pl E.nl cl, .int .u64 E.seed] 26)).alloc (.cells #[.int .i64 (s.r 0), .int .i64 (s.r 1), .int .i64 (s.r 2), .int .i64 (s.r 3), .int .i64 (s.r 4), .int .i64 (s.r 5), .int .i64 (s.r 6), .int .i64 (s.r 7), .int .i64 s.d, .int .i64 s.n] 34)).alloc (.cells #[.int .i64 E.m.t, .int .i64 E.m.f, .int .i64 E.m.s, .int .i64 E.m.to, .int .i64 E.m.v, .int .i64 E.m.u, .bool E.m.an] 43)).alloc (.cells #[.int .i64 0, .int .i64 0, .int .i64 0, .int .i64 0, .int .i64 0, .int .i64 0, .int .i64 0, .int .i64 0, .int .i64 0, .int .i64 0] 34)) = W1 at *
  have rA := bA.get
  have HA := Lib.hid hA
  have HBK := Lib.hid (And.intro bA (And.intro bB (And.intro bC bD)))
  clear hA bA bB bC bD
  go_wp2_with fail
  refine (vmcheck_any _ _ _ _ _ _ _ _ W1 (HI.out.up HA.out) (HL.out.up HA.out)).mono ?_
  rintro e w2 ⟨rfl, hu2⟩
  rw [HOK.out]
  have rB := (HBK.out.2.1.up hu2).get
  have rC := (HBK.out.2.2.1.up hu2).get
  clear rA
  go_wp2_with fail
  refine (evcheck_any E.m w2).mono ?_
  rintro e w3 ⟨rfl, hu3⟩
  rw [HCH.out]
  have hu23 := hu2.trans hu3
  have rA := (HBK.out.1.up hu23).get
  have rB := (HBK.out.2.1.up hu23).get
  have rC := (HBK.out.2.2.1.up hu23).get
  have hb1 := HB.out.1
  have hb2 := HB.out.2
  go_upto_region 7 with (fail)
  have hu4 : Up W1 (w3.alloc (.cells #[.slice pv E.np cv, .int .i64 E.me, .slice pl E.nl cl, .int .u64 E.seed, .int .i64 E.m.t, .int .i64 E.m.f, .int .i64 E.m.s, .int .i64 E.m.to, .int .i64 E.m.v, .int .i64 E.m.u, .bool E.m.an, .int .i64 0, .int .i64 0, .int .i64 0, .int .i64 0, .int .i64 0, .int .i64 0, .int .i64 0, .int .i64 0, .int .i64 0, .int .i64 0, .int .i64 0, .int .i64 0, .int .i64 0, .int .i64 0, .int .i64 0, .int .i64 0, .int .i64 s.d, .slice none 0 0, .int .i64 0] 137)) := hu23.trans (alloc_up _ _ _)
  have bP := Blk.alloc w3 [.slice pv E.np cv, .int .i64 E.me, .slice pl E.nl cl, .int .u64 E.seed, .int .i64 E.m.t, .int .i64 E.m.f, .int .i64 E.m.s, .int .i64 E.m.to, .int .i64 E.m.v, .int .i64 E.m.u, .bool E.m.an, .int .i64 0, .int .i64 0, .int .i64 0, .int .i64 0, .int .i64 0, .int .i64 0, .int .i64 0, .int .i64 0, .int .i64 0, .int .i64 0, .int .i64 0, .int .i64 0, .int .i64 0, .int .i64 0, .int .i64 0, .int .i64 0, .int .i64 s.d, .slice none 0 0, .int .i64 0] 137
  obtain ⟨P, hP⟩ : ∃ P, w3.heap.size = P := ⟨_, rfl⟩
  have hPge : W1.heap.size ≤ P := by rw [← hP]; exact hu23.1.size
  have hPfr : ∀ j, (w3.alloc (.cells #[.slice pv E.np cv, .int .i64 E.me, .slice pl E.nl cl, .int .u64 E.seed, .int .i64 E.m.t, .int .i64 E.m.f, .int .i64 E.m.s, .int .i64 E.m.to, .int .i64 E.m.v, .int .i64 E.m.u, .bool E.m.an, .int .i64 0, .int .i64 0, .int .i64 0, .int .i64 0, .int .i64 0, .int .i64 0, .int .i64 0, .int .i64 0, .int .i64 0, .int .i64 0, .int .i64 0, .int .i64 0, .int .i64 0, .int .i64 0, .int .i64 0, .int .i64 0, .int .i64 s.d, .slice none 0 0, .int .i64 0] 137)).frozen? ⟨P, j, none⟩ = false := fun j => new_free W1 (.map #[] 0) hu4 j P hPge
  rw [hP] at bP ⊢
  generalize (w3.alloc (.cells #[.slice pv E.np cv, .int .i64 E.me, .slice pl E.nl cl, .int .u64 E.seed, .int .i64 E.m.t, .int .i64 E.m.f, .int .i64 E.m.s, .int .i64 E.m.to, .int .i64 E.m.v, .int .i64 E.m.u, .bool E.m.an, .int .i64 0, .int .i64 0, .int .i64 0, .int .i64 0, .int .i64 0, .int .i64 0, .int .i64 0, .int .i64 0, .int .i64 0, .int .i64 0, .int .i64 0, .int .i64 0, .int .i64 0, .int .i64 0, .int .i64 0, .int .i64 0, .int .i64 s.d, .slice none 0 0, .int .i64 0] 137)) = W4 at *
  clear hu2 hu3 hu23 rA rB rC hb1 hb2 hP
  have hWlt : w.heap.size + 1 + 1 + 1 < W1.heap.size := HBK.out.2.2.2.lt (by simp)
  refine region_upL0 [0, 1, 2, 3, 4, 5] [] 6 [] (by kernel_rfl) (by kernel_rfl) ?_
  simp only [getOps, List.getElem?_cons_zero, List.getElem?_cons_succ]
  repeat (apply wpUp_step rfl rfl; (focus (intro W hU; go_simp; exact ⟨rfl, Up.refl _⟩)); go_simp)
  refine wpUp_nil fun W5 hW5 => ?_
  refine wpNew_nil fun W6 hW6 => ?_
  have hU6 : Up W4 W6 := (up_drew.trans hW5).trans hW6
  have bP6 := bP.up hU6
  have rP := bP6.get
  have rB := (HBK.out.2.1.up (hu4.trans hU6)).get
  have rF : ∀ j, W6.frozen? ⟨P, j, none⟩ = false := fun j => (hU6.2 _).trans (hPfr j)
  have hcp := run_copy_cells (P := Tryz.prog) W6 138 138 3 2 P 11 16 16 ⟨w.heap.size + 1, 0, none⟩ 8 8 [.int .i64 (s.r 0), .int .i64 (s.r 1), .int .i64 (s.r 2), .int .i64 (s.r 3), .int .i64 (s.r 4), .int .i64 (s.r 5), .int .i64 (s.r 6), .int .i64 (s.r 7)] Tryz.underlying138 (by kernel_rfl) rfl
    (fun j v hj => by have hB := HBK.out.2.1.up (hu4.trans hU6); have hj8 : j < 8 := (List.getElem?_eq_some_iff.1 hj).1; have := hB.at (i := j) (v := v) (by rw [← hj]; rcases j with _ | _ | _ | _ | _ | _ | _ | _ | j <;> first | rfl | omega); simpa [Addr.add_lit] using this)
    (fun j hj => by rw [bP6.get (11 + j) (by simp at hj ⊢; omega)]; rfl) (fun j hj => rF _) (by simp [Value.oneCell'])
  go_upto_region 8 with (fail)
  have hC6 := Chg.setCells (S := (· = P)) (a := W6) (b := P) (Or.inl rfl) [.int .i64 (s.r 0), .int .i64 (s.r 1), .int .i64 (s.r 2), .int .i64 (s.r 3), .int .i64 (s.r 4), .int .i64 (s.r 5), .int .i64 (s.r 6), .int .i64 (s.r 7)] 11 (Chg.refl (· = P) W6)
  have bP7 := Blk.sets [.int .i64 (s.r 0), .int .i64 (s.r 1), .int .i64 (s.r 2), .int .i64 (s.r 3), .int .i64 (s.r 4), .int .i64 (s.r 5), .int .i64 (s.r 6), .int .i64 (s.r 7)] 11 bP6 (by simp)
  simp only [setL, List.set_cons_succ, List.set_cons_zero, Nat.reduceAdd] at bP7
  clear rP rB rF hcp bP6 bP
  generalize (W6.setCells P 11 [.int .i64 (s.r 0), .int .i64 (s.r 1), .int .i64 (s.r 2), .int .i64 (s.r 3), .int .i64 (s.r 4), .int .i64 (s.r 5), .int .i64 (s.r 6), .int .i64 (s.r 7)]) = W7 at *
  have hU7 : Up W1 W7 := ((Chg.of_up (S := (· = P)) (hu4.trans hU6)).trans hC6 (fun _ _ h => h)).to_up (fun k hk e => by subst e; omega)
  have hF7 : ∀ j, W7.frozen? ⟨P, j, none⟩ = false := fun j => new_free W1 (.map #[] 0) hU7 j P hPge
  go_upto_region 9 with (fail)
  obtain ⟨T, hT⟩ : ∃ T, W7.heap.size = T := ⟨_, rfl⟩
  have hPT : P < T := by rw [← hT]; exact bP7.lt (by simp)
  have bT := Blk.alloc W7 [.int .i64 0, .int .i64 0] 140
  have hU8 : Up W7 (W7.alloc (.cells #[.int .i64 0, .int .i64 0] 140)) := alloc_up _ _ _
  rw [hT] at bT ⊢
  have hsz8 : (W7.alloc (.cells #[.int .i64 0, .int .i64 0] 140)).heap.size = T + 1 := by rw [World.size_alloc, hT]
  generalize (W7.alloc (.cells #[.int .i64 0, .int .i64 0] 140)) = W8 at *
  have hu8 := hU7.trans hU8
  have hcpu := cpu_of_blk (bP7.up hU8) (fun j => (hU8.2 _).trans (hF7 j)) (s := s)
  have hA8 := HA.out.trans hu8
  have hrun := run_any P pv pl cv cl E hE (startOf s) (start_good HS.out) rfl hp W8 hcpu (HL.out.up hA8) (HI.out.up hA8) (fun k hk e => by have := hlp k hk; have := HA.out.1.size; omega) (fun k hk e => by have := hip k hk; have := HA.out.1.size; omega)
  have HT := Lib.hid (And.intro bT (And.intro hsz8 (And.intro hu8 hPT)))
  unfold RunPost at hrun
  rcases hr : runF E 4096 (startOf s) with f | t
  · rw [hr] at hrun
    have HRN := Lib.hid hrun
    have HRR := Lib.hid hr
    clear hrun hr hcpu bP7 hC6 hU7 hF7 hU8 hA8 bT hsz8 hu8 hT hu4 hPfr hU6
    go_wp2_with fail
    refine HRN.out.mono ?_
    rintro e w9 ⟨hch9, J, R, i0, rfl, hJ, hR⟩
    have hs8 := HT.out.2.1
    have hu8 := HT.out.2.2.1
    have hg0 : 0 < w.heap.size := World.block_lt_of_cell? w _ HG.out
    have hw1 := HA.out.1.size
    have g9 := hch9.cell (a := ⟨0, 0, none⟩) (by simp only [not_or]; exact ⟨by show 0 ≠ P; omega, by show ¬ W8.heap.size + 2 ≤ 0; omega⟩) (cell_up (HA.out.trans hu8) HG.out)
    have bT9 := HT.out.1.chg hch9 (by simp only [not_or]; exact ⟨by omega, by omega⟩)
    have hT9 : ∀ j, w9.frozen? ⟨T, j, none⟩ = false := fun j => (hch9.marks _).trans ((hu8.2 _).trans (frozen_new _ _ (by show W1.heap.size ≤ T; omega)))
    have hU9 : Up W1 w9 := ((Chg.of_up (S := fun k => k = P ∨ W8.heap.size + 2 ≤ k) hu8).trans hch9 (fun _ _ h => h)).to_up (fun k hk e => by have := hu8.1.size; rcases e with e | e <;> omega)
    clear hch9
    go_wp2_with fail
    refine (as_hit T J R i0 f _ _ w9 g9 (bT9.get 0 (by simp)) (bT9.get 1 (by simp)) (hT9 0) (hT9 1) hJ hR).mono ?_
    rintro e w10 ⟨rfl, hch10, t0, t1⟩
    have hU10 : Up W1 w10 := ((Chg.of_up (S := (· = T)) hU9).trans hch10 (fun _ _ h => h)).to_up (fun k hk e => by omega)
    clear hch10 bT9 hT9 hU9 hJ hR g9
    have bB := HBK.out.2.1.up hU10
    have bD := HBK.out.2.2.2.up hU10
    go_upto_region 11 with (fail)
    have rD := bD.get
    have rB := bB.get
    have hDF : ∀ j, w10.frozen? ⟨w.heap.size + 1 + 1 + 1, j, none⟩ = false := fun j => ((hU10.2 _).trans ((HA.out.2 _).trans (frozen_new _ _ (by show w.heap.size ≤ w.heap.size + 1 + 1 + 1; omega))))
    go_region
    go_wp2
    have bR := (Blk.sets [.int .i64 (s.r 0), .int .i64 (s.r 1), .int .i64 (s.r 2), .int .i64 (s.r 3), .int .i64 (s.r 4), .int .i64 (s.r 5), .int .i64 (s.r 6), .int .i64 (s.r 7), .int .i64 s.d, .int .i64 s.n] 0 bD (by simp)).up up_drew
    simp only [setL, List.set_cons_succ, List.set_cons_zero, Nat.reduceAdd] at bR
    have hUR : Up w (w10.setCells (w.heap.size + 1 + 1 + 1) 0 [.int .i64 (s.r 0), .int .i64 (s.r 1), .int .i64 (s.r 2), .int .i64 (s.r 3), .int .i64 (s.r 4), .int .i64 (s.r 5), .int .i64 (s.r 6), .int .i64 (s.r 7), .int .i64 s.d, .int .i64 s.n]).drew := ((Chg.setCells (S := (· = w.heap.size + 1 + 1 + 1)) (a := w) (b := w.heap.size + 1 + 1 + 1) (Or.inl rfl) [.int .i64 (s.r 0), .int .i64 (s.r 1), .int .i64 (s.r 2), .int .i64 (s.r 3), .int .i64 (s.r 4), .int .i64 (s.r 5), .int .i64 (s.r 6), .int .i64 (s.r 7), .int .i64 s.d, .int .i64 s.n] 0 (.of_up (HA.out.trans hU10))).to_up (fun k hk e => by omega)).drew
    clear rD hDF bD bB rB
    have hRR := HRR.out
    refine bodyPost_ret (w := (w10.setCells (w.heap.size + 1 + 1 + 1) 0 [.int .i64 (s.r 0), .int .i64 (s.r 1), .int .i64 (s.r 2), .int .i64 (s.r 3), .int .i64 (s.r 4), .int .i64 (s.r 5), .int .i64 (s.r 6), .int .i64 (s.r 7), .int .i64 s.d, .int .i64 s.n]).drew) (v := .tuple #[s.val, .slice none 0 0, .int .i64 f]) ?_ rfl ?_
    · generalize (w10.setCells (w.heap.size + 1 + 1 + 1) 0 [.int .i64 (s.r 0), .int .i64 (s.r 1), .int .i64 (s.r 2), .int .i64 (s.r 3), .int .i64 (s.r 4), .int .i64 (s.r 5), .int .i64 (s.r 6), .int .i64 (s.r 7), .int .i64 s.d, .int .i64 s.n]).drew = W13 at *
      have rR := bR.get
      simp [results, Tryz.results42, go_sem, rR]
    · refine ⟨.slice none 0 0, ?_, hUR, ?_, fun k hk => by simp [sameBlock, Value.ownBlock] at hk⟩
      · unfold vmRun; rw [hRR]
      · unfold vmRun; rw [hRR]; exact OwnR.nil _ _ _
  · rw [hr] at hrun
    have HRN := Lib.hid hrun
    have HRR := Lib.hid hr
    clear hrun hr hcpu bP7 hC6 hU7 hF7 hU8 hA8 bT hsz8 hu8 hT hu4 hPfr hU6
    go_wp2_with fail
    refine HRN.out.mono ?_
    rintro e w9 ⟨hch9, rfl, hst9⟩
    go_wp2_with fail
    refine (as_nil _ w9).mono ?_
    rintro e w10 ⟨rfl, rfl⟩
    have hs8 := HT.out.2.1
    have hu8 := HT.out.2.2.1
    have hw1 := HA.out.1.size
    have hU9 : Up W1 w9 := ((Chg.of_up (S := fun k => k = P ∨ W8.heap.size + 2 ≤ k) hu8).trans hch9 (fun _ _ h => h)).to_up (fun k hk e => by have := hu8.1.size; rcases e with e | e <;> omega)
    obtain ⟨vo, hc9, ho9, hb9⟩ := hst9
    have bB := HBK.out.2.1.up hU9
    have k1 := lift hc9.d
    have k2 := lift hc9.o
    have k3 := bB.lift
    obtain ⟨po, co, hvo⟩ : ∃ po co, vo = .slice po t.o.length co := by
      rcases ho9.is with ⟨h1, h2⟩ | ⟨g, cap, h1, _⟩
      · exact ⟨none, 0, by rw [h1, h2]⟩
      · exact ⟨_, _, h1⟩
    subst hvo
    have hlen : t.o.length ≤ 8 := (runF_good hE hp 4096 (startOf s) t (start_good HS.out) HRR.out).o
    have w_n : IntKind.i64.wrap (s.n + (t.o.length : Int)) = s.n + (t.o.length : Int) := IntWalk.i64_in _ (by have := HS.out.n0; have := HS.out.n1; omega)
    clear hch9 bB
    go_upto_region 12 with (fail)
    refine region_upL0 [0, 1, 2, 3, 4, 5, 6, 7, 8, 9, 10, 11, 12] [13] 14 [] (by kernel_rfl) (by kernel_rfl) ?_
    simp only [getOps, List.getElem?_cons_zero, List.getElem?_cons_succ]
    repeat (apply wpUp_step rfl rfl; (focus (intro W hU; go_simp; exact ⟨rfl, Up.refl _⟩)); go_simp)
    refine wpUp_nil fun W10 hW10 => ?_
    clear k1 k2 k3
    refine wpNew_step rfl fun W11 hW11 K hK => ?_
    go_simp
    refine ⟨alloc_up _ _ _, hK _ _ ?_⟩
    clear hK K
    refine wpNew_nil fun W12 hW12 => ?_
    have hU12 : Up w9 W12 := (((up_drew.trans hW10).trans hW11).trans (alloc_up _ _ _)).trans hW12
    obtain ⟨Q, hQ⟩ : ∃ Q, W11.heap.size = Q := ⟨_, rfl⟩
    have hQge : w9.heap.size ≤ Q := by rw [← hQ]; exact ((up_drew.trans hW10).trans hW11).1.size
    have bQ := (Blk.alloc W11 [.int .i64 0, .int .i64 0, .int .i64 0, .int .i64 0, .int .i64 0, .int .i64 0, .int .i64 0, .int .i64 0, .int .i64 0, .int .i64 0] 34).up hW12
    rw [hQ] at bQ ⊢
    have hQF : ∀ j, W12.frozen? ⟨Q, j, none⟩ = false := fun j => new_free w9 (.map #[] 0) hU12 j Q hQge
    have rQ := bQ.get
    clear hW10 hW11 hW12 hQ
    go_upto_region 13 with (fail)
    have bQ2 := Blk.sets [.int .i64 0, .int .i64 0, .int .i64 0, .int .i64 0, .int .i64 0, .int .i64 0, .int .i64 0, .int .i64 0, .int .i64 t.d, .int .i64 (s.n + (t.o.length : Int))] 0 bQ (by simp)
    simp only [setL, List.set_cons_succ, List.set_cons_zero, Nat.reduceAdd] at bQ2
    have hU13 : Up w9 (W12.setCells Q 0 [.int .i64 0, .int .i64 0, .int .i64 0, .int .i64 0, .int .i64 0, .int .i64 0, .int .i64 0, .int .i64 0, .int .i64 t.d, .int .i64 (s.n + (t.o.length : Int))]) := (Chg.setCells (S := (· = Q)) (a := w9) (b := Q) (Or.inl rfl) [.int .i64 0, .int .i64 0, .int .i64 0, .int .i64 0, .int .i64 0, .int .i64 0, .int .i64 0, .int .i64 0, .int .i64 t.d, .int .i64 (s.n + (t.o.length : Int))] 0 (.of_up hU12)).to_up (fun k hk e => by omega)
    obtain ⟨W13, hW13⟩ : ∃ W13, W12.setCells Q 0 [.int .i64 0, .int .i64 0, .int .i64 0, .int .i64 0, .int .i64 0, .int .i64 0, .int .i64 0, .int .i64 0, .int .i64 t.d, .int .i64 (s.n + (t.o.length : Int))] = W13 := ⟨_, rfl⟩
    rw [hW13] at bQ2 hU13
    simp only [World.setCells, Nat.reduceAdd] at hW13
    rw [hW13]
    clear bQ rQ hQF hU12 hW13
    have hPQ : ¬ P = Q := fun e => by have := World.block_lt_of_cell? w9 _ hc9.n0; simp only at this; omega
    refine region_upL0 [0, 1, 2, 3, 4, 5] [] 6 [] (by kernel_rfl) (by kernel_rfl) ?_
    simp only [getOps, List.getElem?_cons_zero, List.getElem?_cons_succ]
    repeat (apply wpUp_step rfl rfl; (focus (intro W hU; go_simp; exact ⟨rfl, Up.refl _⟩)); go_simp)
    refine wpUp_nil fun W14 hW14 => ?_
    refine wpNew_nil fun W15 hW15 => ?_
    have hU15 : Up W13 W15 := (up_drew.trans hW14).trans hW15
    have bQ15 := bQ2.up hU15
    have hc15 := hc9.up (hU13.trans hU15)
    have hQF : ∀ j, W15.frozen? ⟨Q, j, none⟩ = false := fun j => new_free w9 (.map #[] 0) (hU13.trans hU15) j Q hQge
    have hcp := run_copy_cells (P := Tryz.prog) W15 138 138 3 2 Q 0 8 8 ⟨P, 11, none⟩ 16 16 [.int .i64 (t.r 0), .int .i64 (t.r 1), .int .i64 (t.r 2), .int .i64 (t.r 3), .int .i64 (t.r 4), .int .i64 (t.r 5), .int .i64 (t.r 6), .int .i64 (t.r 7)] Tryz.underlying138 (by kernel_rfl) rfl
      (fun j v hj => by have hj8 : j < 8 := (List.getElem?_eq_some_iff.1 hj).1; have h1 := hc15.rs j (by omega); rcases j with _ | _ | _ | _ | _ | _ | _ | _ | j <;> first | (simp at hj; subst hj; simpa [Addr.add_lit] using h1) | omega)
      (fun j hj => by rw [bQ15.get (0 + j) (by simp at hj ⊢; omega)]; rfl) (fun j hj => hQF _) (by simp [Value.oneCell'])
    clear hW14 hW15
    go_upto_region 14 with (fail)
    have bQ3 := Blk.sets [.int .i64 (t.r 0), .int .i64 (t.r 1), .int .i64 (t.r 2), .int .i64 (t.r 3), .int .i64 (t.r 4), .int .i64 (t.r 5), .int .i64 (t.r 6), .int .i64 (t.r 7)] 0 bQ15 (by simp)
    simp only [setL, List.set_cons_succ, List.set_cons_zero, Nat.reduceAdd] at bQ3
    have hU16 : Up w9 (W15.setCells Q 0 [.int .i64 (t.r 0), .int .i64 (t.r 1), .int .i64 (t.r 2), .int .i64 (t.r 3), .int .i64 (t.r 4), .int .i64 (t.r 5), .int .i64 (t.r 6), .int .i64 (t.r 7)]) := (Chg.setCells (S := (· = Q)) (a := w9) (b := Q) (Or.inl rfl) [.int .i64 (t.r 0), .int .i64 (t.r 1), .int .i64 (t.r 2), .int .i64 (t.r 3), .int .i64 (t.r 4), .int .i64 (t.r 5), .int .i64 (t.r 6), .int .i64 (t.r 7)] 0 (.of_up (hU13.trans hU15))).to_up (fun k hk e => by omega)
    clear hcp hQF bQ15 hU15 hU13 bQ2 hc15
    generalize (W15.setCells Q 0 [.int .i64 (t.r 0), .int .i64 (t.r 1), .int .i64 (t.r 2), .int .i64 (t.r 3), .int .i64 (t.r 4), .int .i64 (t.r 5), .int .i64 (t.r 6), .int .i64 (t.r 7)]) = W16 at *
    have rQ := bQ3.get
    have bD := HBK.out.2.2.2.up (hU9.trans hU16)
    have rD := bD.get
    have c_o := (hc9.up hU16).o
    have hDF : ∀ j, W16.frozen? ⟨w.heap.size + 1 + 1 + 1, j, none⟩ = false := fun j => new_free w (.map #[] 0) (HA.out.trans (hU9.trans hU16)) j _ (by omega)
    go_region
    go_wp2
    have bR := (Blk.sets [.int .i64 (t.r 0), .int .i64 (t.r 1), .int .i64 (t.r 2), .int .i64 (t.r 3), .int .i64 (t.r 4), .int .i64 (t.r 5), .int .i64 (t.r 6), .int .i64 (t.r 7), .int .i64 t.d, .int .i64 (s.n + (t.o.length : Int))] 0 bD (by simp)).up up_drew
    simp only [setL, List.set_cons_succ, List.set_cons_zero, Nat.reduceAdd] at bR
    have hch := Chg.setCells (S := (· = w.heap.size + 1 + 1 + 1)) (a := W16) (b := w.heap.size + 1 + 1 + 1) (Or.inl rfl) [.int .i64 (t.r 0), .int .i64 (t.r 1), .int .i64 (t.r 2), .int .i64 (t.r 3), .int .i64 (t.r 4), .int .i64 (t.r 5), .int .i64 (t.r 6), .int .i64 (t.r 7), .int .i64 t.d, .int .i64 (s.n + (t.o.length : Int))] 0 (Chg.refl _ _)
    have hUR : Up w (W16.setCells (w.heap.size + 1 + 1 + 1) 0 [.int .i64 (t.r 0), .int .i64 (t.r 1), .int .i64 (t.r 2), .int .i64 (t.r 3), .int .i64 (t.r 4), .int .i64 (t.r 5), .int .i64 (t.r 6), .int .i64 (t.r 7), .int .i64 t.d, .int .i64 (s.n + (t.o.length : Int))]).drew := (((Chg.of_up (HA.out.trans (hU9.trans hU16))).trans hch (fun _ _ h => h)).to_up (fun k hk e => by omega)).drew
    have hoR := ((ho9.up hU16).chg hch (fun k hk e => by have := (hb9 k hk).1; have := hu8.1.size; omega)).up up_drew
    clear rD hDF bD rQ c_o hch
    have hRR := HRR.out
    refine bodyPost_ret (w := (W16.setCells (w.heap.size + 1 + 1 + 1) 0 [.int .i64 (t.r 0), .int .i64 (t.r 1), .int .i64 (t.r 2), .int .i64 (t.r 3), .int .i64 (t.r 4), .int .i64 (t.r 5), .int .i64 (t.r 6), .int .i64 (t.r 7), .int .i64 t.d, .int .i64 (s.n + (t.o.length : Int))]).drew) (v := .tuple #[.agg #[.int .i64 (t.r 0), .int .i64 (t.r 1), .int .i64 (t.r 2), .int .i64 (t.r 3), .int .i64 (t.r 4), .int .i64 (t.r 5), .int .i64 (t.r 6), .int .i64 (t.r 7), .int .i64 t.d, .int .i64 (s.n + (t.o.length : Int))], .slice po t.o.length co, .int .i64 0]) ?_ rfl ?_
    · generalize (W16.setCells (w.heap.size + 1 + 1 + 1) 0 [.int .i64 (t.r 0), .int .i64 (t.r 1), .int .i64 (t.r 2), .int .i64 (t.r 3), .int .i64 (t.r 4), .int .i64 (t.r 5), .int .i64 (t.r 6), .int .i64 (t.r 7), .int .i64 t.d, .int .i64 (s.n + (t.o.length : Int))]).drew = W17 at *
      have rR := bR.get
      simp [results, Tryz.results42, go_sem, rR]
    · refine ⟨.slice po t.o.length co, ?_, hUR, ?_, fun k hk => by have := (hb9 k hk).1; have := hu8.1.size; omega⟩
      · unfold vmRun; rw [hRR]; rfl
      · unfold vmRun; rw [hRR]; exact hoR
end Go.Proofs.YtalmjdlcogdpmaaGreatDoor

namespace Go.Proofs.YtalmjdlcogdpmaaGreatDoor
open Go Go.RowKit
section
variable {ρ : Pre} {P : Program} {ops : Array Oper} {md : Region.Mode}

def newK (md : Region.Mode) (ops : Array Oper) (T : List Nat) (K : Array Bool → Bool) : List Nat → Array Bool → Bool
  | [], listed => K listed
  | k :: r, listed => decide (Region.ready md ops listed = [k]) && (ops[k]?).isSome && !T.contains k && newK md ops T K r (listed.setIfInBounds k true)
def headK (md : Region.Mode) (ops : Array Oper) (T : List Nat) (K : Array Bool → Bool) : List Nat → Array Bool → Bool
  | [], listed => K listed
  | k :: r, listed => (Region.ready md ops listed).contains k && Region.free md ops listed k && !T.contains k && headK md ops T K r (listed.setIfInBounds k true)

theorem wpAnyG_newK {Q : Exit → Act → World → Prop} {T : List Nat} {l : List Oper} {K : Array Bool → Bool} {C : Act → World → Prop} {n : Nat}
    (hK : ∀ listed a w, HeadI md l.toArray T listed → K listed = true → C a w → wpAnyG ρ P md l.toArray Q T n listed a w) : ∀ (ix : List Nat) (listed : Array Bool) (a : Act) (w : World),
    HeadI md l.toArray T listed → newK md l.toArray T K ix listed = true → wpNew ρ P l.toArray C (getOps l ix) a w → wpAnyG ρ P md l.toArray Q T (ix.length + n) listed a w
  | [], listed, a, w, inv, hB, h => by
    have hB' : K listed = true := hB
    rw [List.length_nil, Nat.zero_add]
    exact hK listed a w inv hB' (h w (ρ.refl _))
  | k :: r, listed, a, w, inv, hB, h => by
    simp only [newK, Bool.and_eq_true, decide_eq_true_eq, Bool.not_eq_true'] at hB
    obtain ⟨⟨⟨hr, ho⟩, hT⟩, hB'⟩ := hB
    obtain ⟨o, ho⟩ := Option.isSome_iff_exists.1 ho
    have ho' : l[k]? = some o := by simpa using ho
    have hkT : k ∉ T := by simpa using hT
    have hkr : k ∈ Region.ready md l.toArray listed := by rw [hr]; simp
    rw [getOps_cons ho'] at h
    rw [List.length_cons, show r.length + 1 + n = (r.length + n) + 1 by omega]
    intro W hW
    refine ⟨fun h1 => (by rw [hr] at h1; cases h1), fun i hi => .inl ?_⟩
    rw [hr] at hi
    have hik : i = k := by simpa using hi
    subst hik
    have h' := h W hW
    unfold ucOp
    simp only [ho]
    split
    · rename_i hwt
      simp only [hwt, if_true] at h'
      exact ucUpon_mono (fun a' W' _ h3 => wpAnyG_newK hK r _ a' W' (inv.set hkr hkT) hB' h3) h'
    · rename_i hwt
      simp only [hwt] at h'
      exact wpAnyG_newK hK r _ _ _ (inv.set hkr hkT) hB' h'

theorem wpAnyG_headK {Q : Exit → Act → World → Prop} {l : List Oper} {T : List Nat} {ns : List Nat} {w : World} {K : Array Bool → Bool} {C : Act → World → Prop} {n : Nat}
    (hK : ∀ listed a w, HeadI md l.toArray T listed → K listed = true → C a w → wpAnyG ρ P md l.toArray Q T n listed a w) (hsel : Region.noSelect l.toArray = true)
    (hQ : ∀ i, ns.contains i = true → ∀ d v c a w, Q (.panic c) (Act.put a d v) w → Q (.panic c) a w) :
    ∀ (ix : List Nat) (listed : Array Bool) (a : Act), (∀ i ∈ ix, ∀ listed, HeadI md l.toArray T listed → ns.contains i = false → listed.getD i true = false → ∀ t ∈ T, t ∉ Region.ready md l.toArray listed) →
    HeadI md l.toArray T listed → headK md l.toArray T K ix listed = true →
    wpUp ρ P l.toArray w C ns ix (getOps l ix) a →
    wpAnyG ρ P md l.toArray Q T (ix.length + n) listed a w
  | [], listed, a, _, inv, hB, h => by
    have hB' : K listed = true := hB
    rw [List.length_nil, Nat.zero_add]
    exact hK listed a w inv hB' (h w (ρ.refl _))
  | k :: r, listed, a, hwait, inv, hB, h => by
    simp only [headK, Bool.and_eq_true, Bool.not_eq_true'] at hB
    obtain ⟨⟨⟨hr, hf⟩, hT⟩, hB'⟩ := hB
    have hr' : k ∈ Region.ready md l.toArray listed := by simpa using hr
    obtain ⟨_, o, ho, _⟩ := mem_ready.1 hr'
    have ho' : l[k]? = some o := by simpa using ho
    rw [getOps_cons ho'] at h
    obtain ⟨v, hy, hyn, hK'⟩ := h
    have hkT : k ∉ T := by simpa using hT
    rw [List.length_cons, show r.length + 1 + n = (r.length + n) + 1 by omega]
    exact wpAnyG_first ho (Region.noSelect_spec hsel) hkT (hwait k (by simp)) (fun hns c a w => hQ k hns o.dst v c a w) _ listed a w inv (Region.free_spec ho hf) hr' hy hyn
      (wpAnyG_headK hK hsel hQ r _ _ (fun i hi => hwait i (List.mem_cons_of_mem _ hi)) (inv.set hr' hkT) hB' hK')

def up2B (md : Region.Mode) (ops : Array Oper) (ns D N D2 N2 : List Nat) (t : Nat) (T : List Nat) : Bool :=
  Region.noSelect ops && (D ++ N ++ D2 ++ N2 ++ t :: T).length == ops.size && chainL md ops (t :: T) && sinkL md ops ns t (D ++ N ++ D2 ++ N2) && ((D ++ N ++ D2 ++ N2).all fun i => decide (i < ops.size)) && ((t :: T).all fun i => decide (i < ops.size)) &&
    headK md ops (t :: T) (newK md ops (t :: T) (headK md ops (t :: T) (newL md ops (t :: T) N2) D2) N) D (Array.replicate ops.size false)

/-- THE LAW in two stages. -/
theorem region_up2g {id : Nat} {Q : Exit → Act → World → Prop} {a : Act} {w : World} {l : List Oper} (ns D N D2 N2 : List Nat) (t : Nat) (T : List Nat) (hm : P.follows .mixedOrders = true) (hB : up2B .any l.toArray ns D N D2 N2 t T = true)
    (hQ : ∀ i, ns.contains i = true → ∀ d v c a w, Q (.panic c) (Act.put a d v) w → Q (.panic c) a w)
    (h : wpUp ρ P l.toArray w.drew (fun a' W => wpNew ρ P l.toArray (fun a' W => wpUp ρ P l.toArray W (fun a' W => wpNew ρ P l.toArray (fun a' W => wpList P l.toArray Q (getOps l (t :: T)) a' W) (getOps l N2) a' W) ns D2 (getOps l D2) a') (getOps l N) a' W) ns D (getOps l D) a) : (Code.region id l.toArray true).wp P Q a w := by
  simp only [up2B, Bool.and_eq_true, beq_iff_eq] at hB
  obtain ⟨⟨⟨⟨⟨⟨hsel, hlen⟩, hc⟩, hs⟩, hlt⟩, hTl⟩, hB⟩ := hB
  have inv0 : HeadI .any l.toArray (t :: T) (Array.replicate l.toArray.size false) :=
    ⟨by simp, fun j oj _ hl => (by rw [getD_replicate_false] at hl; cases hl), fun u hu => by
      have h1 : u < l.toArray.size := by have := List.all_eq_true.1 hTl u hu; simpa using this
      exact getD_in (by simpa using h1) (getD_replicate_false _ _)⟩
  have hw : ∀ i ∈ D ++ N ++ D2 ++ N2, ∀ listed, HeadI .any l.toArray (t :: T) listed → ns.contains i = false → listed.getD i true = false → ∀ u ∈ t :: T, u ∉ Region.ready .any l.toArray listed :=
    fun i hi listed inv hns hun u hu => sink_waits hc inv (D ++ N ++ D2 ++ N2) hs (fun j hj => by have := List.all_eq_true.1 hlt j hj; simpa using this) i hi hns hun u hu
  have H := wpAnyG_headK (md := .any) (Q := Q) (ns := ns) (n := N.length + (D2.length + (N2.length + (t :: T).length)))
    (fun listed a w inv hk hC => wpAnyG_newK (n := D2.length + (N2.length + (t :: T).length))
      (fun listed a w inv hk hC => wpAnyG_headK (n := N2.length + (t :: T).length) (fun listed a w inv hk hC => wpAnyG_new N2 listed a w hk hC) hsel hQ D2 listed a
        (fun i hi => hw i (List.mem_append_left _ (List.mem_append_right _ hi))) inv hk hC) N listed a w inv hk hC) hsel hQ D _ a
    (fun i hi => hw i (List.mem_append_left _ (List.mem_append_left _ (List.mem_append_left _ hi)))) inv0 hB h
  refine wp_region_any hm ?_
  have := wpAny_of_G _ _ _ _ H
  rw [show l.toArray.size = D.length + (N.length + (D2.length + (N2.length + (t :: T).length))) by rw [← hlen]; simp [Nat.add_assoc]]
  rw [show l.toArray.size = D.length + (N.length + (D2.length + (N2.length + (t :: T).length))) by rw [← hlen]; simp [Nat.add_assoc]] at this
  exact this
theorem region_up2 {id : Nat} {Q : Exit → Act → World → Prop} {a : Act} {w : World} {l : List Oper} (ns D N D2 N2 : List Nat) (t : Nat) (T : List Nat) (hm : P.follows .mixedOrders = true) (hB : up2B .any l.toArray ns D N D2 N2 t T = true)
    (hQ : ∀ d v c a w, Q (.panic c) (Act.put a d v) w → Q (.panic c) a w)
    (h : wpUp upPre P l.toArray w.drew (fun a' W => wpNew upPre P l.toArray (fun a' W => wpUp upPre P l.toArray W (fun a' W => wpNew upPre P l.toArray (fun a' W => wpList P l.toArray Q (getOps l (t :: T)) a' W) (getOps l N2) a' W) ns D2 (getOps l D2) a') (getOps l N) a' W) ns D (getOps l D) a) : (Code.region id l.toArray true).wp P Q a w :=
  region_up2g ns D N D2 N2 t T hm hB (fun _ _ => hQ) h
theorem region_up20 {id : Nat} {Q : Exit → Act → World → Prop} {a : Act} {w : World} {l : List Oper} (D N D2 N2 : List Nat) (t : Nat) (T : List Nat) (hm : P.follows .mixedOrders = true) (hB : up2B .any l.toArray [] D N D2 N2 t T = true)
    (h : wpUp upPre P l.toArray w.drew (fun a' W => wpNew upPre P l.toArray (fun a' W => wpUp upPre P l.toArray W (fun a' W => wpNew upPre P l.toArray (fun a' W => wpList P l.toArray Q (getOps l (t :: T)) a' W) (getOps l N2) a' W) [] D2 (getOps l D2) a') (getOps l N) a' W) [] D (getOps l D) a) : (Code.region id l.toArray true).wp P Q a w :=
  region_up2g [] D N D2 N2 t T hm hB (fun i hi => by simp at hi) h
end
end Go.Proofs.YtalmjdlcogdpmaaGreatDoor

namespace Go.Proofs.YtalmjdlcogdpmaaGreatDoor
open Go Go.RowKit
section
variable {ρ₁ ρ₂ : Pre} {P : Program} {ops : Array Oper} {md : Region.Mode}

theorem ucOp_put3 {ρ : Pre} {W : World} {j : Nat} {oi oj : Oper} {v : Value} (hj : ops[j]? = some oj) (hap : oi.apart ops oj = true)
    (hsi : ∀ cs b, oi.op ≠ .select cs b) (hsj : ∀ cs b, oj.op ≠ .select cs b) {K : Act → World → Prop} {Y : Act → Prop} {a : Act}
    (keep : ∀ u, execOp (a.put oj.dst u).eval oi = execOp a.eval oi → Region.wanted oi (yielded ops (a.put oj.dst u).tmps) = Region.wanted oi (yielded ops a.tmps) → Y (a.put oj.dst u))
    (h : ucOp ρ P ops j K (a.put oi.dst v) W) : ucOp ρ P ops j (fun a' W' => Y a' ∧ K (a'.put oi.dst v) W') a W := by
  obtain ⟨h1, h2, h3⟩ := Oper.apart_spec hap
  have keep : ∀ u, Y (a.put oj.dst u) := fun u => keep u (execOp_put oi hsi a oj.dst u h3) (wanted_put oi a oj.dst u h3)
  unfold ucOp at *
  simp only [hj] at *
  rw [wanted_put oj a oi.dst v h1] at h
  split
  · rename_i hw
    simp only [hw, if_true] at h
    rw [execOp_put oj hsj a oi.dst v h1] at h
    generalize (execOp a.eval oj).run P W = r at *
    cases r with
    | ok n W' =>
      cases n <;> simp only [ucUpon] at h ⊢
      case value u => exact ⟨h.1, keep u, by rw [← Act.put_comm a v u h2]; exact h.2⟩
      case skip => exact ⟨h.1, keep _, by rw [← Act.put_comm a v undef h2]; exact h.2⟩
      case enter f args => exact h.mono fun e W'' ⟨u, he, hu, hk⟩ => ⟨u, he, hu, keep u, by rw [← Act.put_comm a v u h2]; exact hk⟩
      case row row args => exact h.mono fun u W'' ⟨hu, hk⟩ => ⟨hu, keep u, by rw [← Act.put_comm a v u h2]; exact hk⟩
    | halt x W' => simp only [ucUpon] at h
  · rename_i hw
    simp only [hw] at h
    exact ⟨keep _, by rw [← Act.put_comm a v undef h2]; exact h⟩

/-- Whatever order is picked, exactly; no panic, and the world turns by ρ. -/
def wpX (ρ : Pre) (P : Program) (md : Region.Mode) (ops : Array Oper) (Q : Act → World → Prop) : Nat → Array Bool → Act → World → Prop
  | 0, listed, a, w => Region.ready md ops listed = [] ∧ Q a w
  | f + 1, listed, a, w => (Region.ready md ops listed = [] → Q a w) ∧ ∀ i ∈ Region.ready md ops listed, ucOp ρ P ops i (wpX ρ P md ops Q f (listed.setIfInBounds i true)) a w
def YieldsRead (ρ : Pre) (P : Program) (ops : Array Oper) (w : World) (o : Oper) (v : Value) (a : Act) : Prop :=
  (Region.wanted o (yielded ops a.tmps) = true ∧ ∀ W, ρ.r w W → (execOp a.eval o).run P W = .ok (.value v) W) ∨
  (Region.wanted o (yielded ops a.tmps) = false ∧ v = undef)
theorem YieldsRead.up {ρ : Pre} {w W : World} {o : Oper} {v : Value} {a : Act} (h : YieldsRead ρ P ops w o v a) (hu : ρ.r w W) : YieldsRead ρ P ops W o v a :=
  h.imp (fun ⟨h1, h2⟩ => ⟨h1, fun W' hW => h2 W' (ρ.trans hu hW)⟩) id
theorem YieldsRead.of_same {ρ : Pre} {w : World} {o : Oper} {v : Value} {a a' : Act} (hy : YieldsRead ρ P ops w o v a) (he : execOp a'.eval o = execOp a.eval o)
    (hw : Region.wanted o (yielded ops a'.tmps) = Region.wanted o (yielded ops a.tmps)) : YieldsRead ρ P ops w o v a' := by
  unfold YieldsRead at *
  rw [he, hw]
  exact hy
theorem YieldsRead.ucOp {ρ : Pre} {i : Nat} {o : Oper} {v : Value} {a : Act} {W : World} (hi : ops[i]? = some o) (hy : YieldsRead ρ P ops W o v a) {K : Act → World → Prop} (h : K (a.put o.dst v) W) : ucOp ρ P ops i K a W := by
  unfold Go.Proofs.YtalmjdlcogdpmaaGreatDoor.ucOp
  simp only [hi]
  rcases hy with ⟨hw, hv⟩ | ⟨hw, rfl⟩
  · simp only [hw, if_true, hv W (ρ.refl _), ucUpon]; exact ⟨ρ.refl _, h⟩
  · simp only [hw, Bool.false_eq_true, if_false]; exact h
theorem wpAny_of_X {ρ : Pre} {Q : Exit → Act → World → Prop} : ∀ (f : Nat) (listed : Array Bool) (a : Act) (w : World), wpX ρ P md ops (Q .normal) f listed a w → wpAny P md ops Q f listed a w
  | 0, _, _, _, h => h
  | f + 1, listed, a, w, h => ⟨h.1, fun i hi => wpOp_of_ucOp (fun a' W' _ h' => wpAny_of_X f _ a' W' h') (h.2 i hi)⟩
theorem wpX_first {ρ : Pre} {Q : Act → World → Prop} {i : Nat} {oi : Oper} {v : Value} (hi : ops[i]? = some oi) (hsel : ∀ (j : Nat) (o : Oper) cs b, ops[j]? = some o → o.op ≠ .select cs b) :
    ∀ (f : Nat) (listed : Array Bool) (a : Act) (w : World),
      (∀ j oj, ops[j]? = some oj → j ≠ i → listed.getD j true = false → (∀ e ∈ oj.after, Region.binds md e = true → e.on ≠ i) → oi.apart ops oj = true) →
      i ∈ Region.ready md ops listed → YieldsRead ρ P ops w oi v a → wpX ρ P md ops Q f (listed.setIfInBounds i true) (a.put oi.dst v) w → wpX ρ P md ops Q (f + 1) listed a w := by
  intro f
  induction f with
  | zero =>
    intro listed a w _ hr hy H
    refine ⟨fun h => (by rw [h] at hr; cases hr), fun j hj => ?_⟩
    by_cases hji : j = i
    · subst hji; exact hy.ucOp hi H
    · have := ready_mono hj hji
      rw [H.1] at this
      cases this
  | succ f ih =>
    intro listed a w hfree hr hy H
    refine ⟨fun h => (by rw [h] at hr; cases hr), fun j hj => ?_⟩
    by_cases hji : j = i
    · subst hji; exact hy.ucOp hi H
    · have h1 := H.2 j (ready_mono hj hji)
      obtain ⟨hjun, oj, hoj, hall⟩ := mem_ready.1 hj
      have hnot : ∀ e ∈ oj.after, Region.binds md e = true → e.on ≠ i := fun e he hb heq => by
        have h1 := hall e he hb
        rw [heq, getD_both (mem_ready.1 hr).1] at h1
        cases h1
      have h2 := ucOp_put3 (Y := fun a' => YieldsRead ρ P ops w oi v a') hoj (hfree j oj hoj hji hjun hnot) (fun cs b => hsel i oi cs b hi) (fun cs b => hsel j oj cs b hoj) (fun u h1 h2 => hy.of_same h1 h2) h1
      have hfree' : ∀ k ok, ops[k]? = some ok → k ≠ i → (listed.setIfInBounds j true).getD k true = false →
          (∀ e ∈ ok.after, Region.binds md e = true → e.on ≠ i) → oi.apart ops ok = true := fun k ok hk hki hun hno => by
        refine hfree k ok hk hki ?_ hno
        by_cases hjk : j = k
        · subst hjk; exact hjun
        · rw [getD_set_ne true hjk] at hun; exact hun
      refine ucOp_mono (fun a' W' hW' h3 => ih (listed.setIfInBounds j true) a' W' hfree' (ready_mono hr (Ne.symm hji)) (h3.1.up hW') ?_) h2
      rw [Array.setIfInBounds_comm _ _ hji]
      exact h3.2

def wpAnyG2 (ρ₁ ρ₂ : Pre) (P : Program) (md : Region.Mode) (ops : Array Oper) (Q : Exit → Act → World → Prop) (T : List Nat) : Nat → Array Bool → Act → World → Prop
  | 0, listed, a, w => ∀ W, ρ₁.r w W → Region.ready md ops listed = [] ∧ Q .normal a W
  | f + 1, listed, a, w => ∀ W, ρ₁.r w W → (Region.ready md ops listed = [] → Q .normal a W) ∧
    ∀ i ∈ Region.ready md ops listed, (i ∉ T ∧ ucOp ρ₁ P ops i (wpAnyG2 ρ₁ ρ₂ P md ops Q T f (listed.setIfInBounds i true)) a W) ∨ (i ∈ T ∧ ucOp ρ₂ P ops i (wpX ρ₂ P md ops (Q .normal) f (listed.setIfInBounds i true)) a W)
section
variable {Q : Exit → Act → World → Prop} {T : List Nat}
theorem wpAnyG2_up : ∀ {f : Nat} {listed : Array Bool} {a : Act} {w W : World}, wpAnyG2 ρ₁ ρ₂ P md ops Q T f listed a w → ρ₁.r w W → wpAnyG2 ρ₁ ρ₂ P md ops Q T f listed a W
  | 0, _, _, _, _, h, hu => fun W' hW => h W' (ρ₁.trans hu hW)
  | _ + 1, _, _, _, _, h, hu => fun W' hW => h W' (ρ₁.trans hu hW)
theorem wpAny_of_G2 : ∀ (f : Nat) (listed : Array Bool) (a : Act) (w : World), wpAnyG2 ρ₁ ρ₂ P md ops Q T f listed a w → wpAny P md ops Q f listed a w
  | 0, _, _, w, h => h w (ρ₁.refl _)
  | f + 1, listed, a, w, h => by
    have h := h w (ρ₁.refl _)
    exact ⟨h.1, fun i hi => (h.2 i hi).elim (fun hu => wpOp_of_ucOp (fun a' W' _ h' => wpAny_of_G2 f _ a' W' h') hu.2) fun hw => wpOp_of_ucOp (fun a' W' _ h' => wpAny_of_X f _ a' W' h') hw.2⟩
end

theorem wpAnyG2_first {Q : Exit → Act → World → Prop} {T : List Nat} {i : Nat} {ns : List Nat} {oi : Oper} {v : Value} (hi : ops[i]? = some oi) (hsel : ∀ (j : Nat) (o : Oper) cs b, ops[j]? = some o → o.op ≠ .select cs b)
    (hin : i ∉ T) (hρ : ∀ {a b}, ρ₁.r a b → ρ₂.r a b)
    (hwait : ∀ listed, HeadI md ops T listed → ns.contains i = false → listed.getD i true = false → ∀ t ∈ T, t ∉ Region.ready md ops listed) :
    ∀ (f : Nat) (listed : Array Bool) (a : Act) (w : World), HeadI md ops T listed →
      (∀ j oj, ops[j]? = some oj → j ≠ i → listed.getD j true = false → (∀ e ∈ oj.after, Region.binds md e = true → e.on ≠ i) → oi.apart ops oj = true) →
      i ∈ Region.ready md ops listed → YieldsUp ρ₁ P ops w oi v a → (ns.contains i = true → YieldsRead ρ₂ P ops w oi v a) →
      wpAnyG2 ρ₁ ρ₂ P md ops Q T f (listed.setIfInBounds i true) (a.put oi.dst v) w → wpAnyG2 ρ₁ ρ₂ P md ops Q T (f + 1) listed a w := by
  intro f
  induction f with
  | zero =>
    intro listed a w inv _ hr hy _ H W hW
    refine ⟨fun h => (by rw [h] at hr; cases hr), fun j hj => ?_⟩
    by_cases hji : j = i
    · subst hji; exact .inl ⟨hin, hy.ucOp hi hW fun W' hW' => wpAnyG2_up H (ρ₁.trans hW hW')⟩
    · have := ready_mono hj hji
      rw [(H w (ρ₁.refl _)).1] at this
      cases this
  | succ f ih =>
    intro listed a w inv hfree hr hy hyn H W hW
    have hun := (mem_ready.1 hr).1
    refine ⟨fun h => (by rw [h] at hr; cases hr), fun j hj => ?_⟩
    by_cases hji : j = i
    · subst hji; exact .inl ⟨hin, hy.ucOp hi hW fun W' hW' => wpAnyG2_up H (ρ₁.trans hW hW')⟩
    · have h1 := (H W hW).2 j (ready_mono hj hji)
      obtain ⟨hjun, oj, hoj, hall⟩ := mem_ready.1 hj
      have hnot : ∀ e ∈ oj.after, Region.binds md e = true → e.on ≠ i := fun e he hb heq => by
        have h1 := hall e he hb
        rw [heq, getD_both hun] at h1
        cases h1
      have hfree' : ∀ k ok, ops[k]? = some ok → k ≠ i → (listed.setIfInBounds j true).getD k true = false →
          (∀ e ∈ ok.after, Region.binds md e = true → e.on ≠ i) → oi.apart ops ok = true := fun k ok hk hki hun hno => by
        refine hfree k ok hk hki ?_ hno
        by_cases hjk : j = k
        · subst hjk; exact hjun
        · rw [getD_set_ne true hjk] at hun; exact hun
      by_cases hjT : j ∈ T
      · have hnsi : ns.contains i = true := by
          cases hc0 : ns.contains i with
          | true => rfl
          | false => exact absurd hj (hwait listed inv hc0 hun j hjT)
        have h1' : ucOp ρ₂ P ops j (wpX ρ₂ P md ops (Q .normal) f ((listed.setIfInBounds i true).setIfInBounds j true)) (a.put oi.dst v) W :=
          h1.elim (fun hu => absurd hjT hu.1) fun hw => hw.2
        have hyW := (hyn hnsi).up (hρ hW)
        have h2 := ucOp_put3 (Y := fun a' => YieldsRead ρ₂ P ops W oi v a') hoj (hfree j oj hoj hji hjun hnot) (fun cs b => hsel i oi cs b hi) (fun cs b => hsel j oj cs b hoj) (fun u h1 h2 => hyW.of_same h1 h2) h1'
        refine .inr ⟨hjT, ucOp_mono (fun a' W' hW' h3 => wpX_first hi hsel f _ a' W' hfree' (ready_mono hr (Ne.symm hji)) (h3.1.up hW') ?_) h2⟩
        rw [Array.setIfInBounds_comm _ _ hji]
        exact h3.2
      · have h1' : ucOp ρ₁ P ops j (wpAnyG2 ρ₁ ρ₂ P md ops Q T f ((listed.setIfInBounds i true).setIfInBounds j true)) (a.put oi.dst v) W :=
          h1.elim (fun h => h.2) fun hw => absurd hw.1 hjT
        have h2 := ucOp_put3 (Y := fun a' => YieldsUp ρ₁ P ops w oi v a' ∧ (ns.contains i = true → YieldsRead ρ₂ P ops w oi v a')) hoj (hfree j oj hoj hji hjun hnot) (fun cs b => hsel i oi cs b hi) (fun cs b => hsel j oj cs b hoj)
          (fun u h1 h2 => ⟨hy.of_same h1 h2, fun hn => (hyn hn).of_same h1 h2⟩) h1'
        refine .inl ⟨hjT, ucOp_mono (fun a' W' hW' h3 => ih (listed.setIfInBounds j true) a' W' (inv.set hj hjT) hfree' (ready_mono hr (Ne.symm hji)) (h3.1.1.up (ρ₁.trans hW hW')) (fun hn => (h3.1.2 hn).up (hρ (ρ₁.trans hW hW'))) ?_) h2⟩
        rw [Array.setIfInBounds_comm _ _ hji]
        exact h3.2

/-- The head: the operations of ns only read, and yield the same when others have begun to write. -/
def wpUp2 (ρ₁ ρ₂ : Pre) (P : Program) (ops : Array Oper) (w : World) (Q : Act → World → Prop) (ns : List Nat) : List Nat → List Oper → Act → Prop
  | i :: ix, o :: rest, a => ∃ v, YieldsUp ρ₁ P ops w o v a ∧ (ns.contains i = true → YieldsRead ρ₂ P ops w o v a) ∧ wpUp2 ρ₁ ρ₂ P ops w Q ns ix rest (a.put o.dst v)
  | _, _, a => ∀ W, ρ₁.r w W → Q a W

theorem wpAnyG2_headK {Q : Exit → Act → World → Prop} {l : List Oper} {T : List Nat} {ns : List Nat} {w : World} {K : Array Bool → Bool} {C : Act → World → Prop} {n : Nat}
    (hρ : ∀ {a b}, ρ₁.r a b → ρ₂.r a b)
    (hK : ∀ listed a w, HeadI md l.toArray T listed → K listed = true → C a w → wpAnyG2 ρ₁ ρ₂ P md l.toArray Q T n listed a w) (hsel : Region.noSelect l.toArray = true) :
    ∀ (ix : List Nat) (listed : Array Bool) (a : Act), (∀ i ∈ ix, ∀ listed, HeadI md l.toArray T listed → ns.contains i = false → listed.getD i true = false → ∀ t ∈ T, t ∉ Region.ready md l.toArray listed) →
    HeadI md l.toArray T listed → headK md l.toArray T K ix listed = true →
    wpUp2 ρ₁ ρ₂ P l.toArray w C ns ix (getOps l ix) a →
    wpAnyG2 ρ₁ ρ₂ P md l.toArray Q T (ix.length + n) listed a w
  | [], listed, a, _, inv, hB, h => by
    have hB' : K listed = true := hB
    rw [List.length_nil, Nat.zero_add]
    exact hK listed a w inv hB' (h w (ρ₁.refl _))
  | k :: r, listed, a, hwait, inv, hB, h => by
    simp only [headK, Bool.and_eq_true, Bool.not_eq_true'] at hB
    obtain ⟨⟨⟨hr, hf⟩, hT⟩, hB'⟩ := hB
    have hr' : k ∈ Region.ready md l.toArray listed := by simpa using hr
    obtain ⟨_, o, ho, _⟩ := mem_ready.1 hr'
    have ho' : l[k]? = some o := by simpa using ho
    rw [getOps_cons ho'] at h
    obtain ⟨v, hy, hyn, hK'⟩ := h
    have hkT : k ∉ T := by simpa using hT
    rw [List.length_cons, show r.length + 1 + n = (r.length + n) + 1 by omega]
    exact wpAnyG2_first ho (Region.noSelect_spec hsel) hkT hρ (hwait k (by simp)) _ listed a w inv (Region.free_spec ho hf) hr' hy hyn
      (wpAnyG2_headK hρ hK hsel r _ _ (fun i hi => hwait i (List.mem_cons_of_mem _ hi)) (inv.set hr' hkT) hB' hK')
theorem wpAnyG2_newK {Q : Exit → Act → World → Prop} {T : List Nat} {l : List Oper} {K : Array Bool → Bool} {C : Act → World → Prop} {n : Nat}
    (hK : ∀ listed a w, HeadI md l.toArray T listed → K listed = true → C a w → wpAnyG2 ρ₁ ρ₂ P md l.toArray Q T n listed a w) : ∀ (ix : List Nat) (listed : Array Bool) (a : Act) (w : World),
    HeadI md l.toArray T listed → newK md l.toArray T K ix listed = true → wpNew ρ₁ P l.toArray C (getOps l ix) a w → wpAnyG2 ρ₁ ρ₂ P md l.toArray Q T (ix.length + n) listed a w
  | [], listed, a, w, inv, hB, h => by
    have hB' : K listed = true := hB
    rw [List.length_nil, Nat.zero_add]
    exact hK listed a w inv hB' (h w (ρ₁.refl _))
  | k :: r, listed, a, w, inv, hB, h => by
    simp only [newK, Bool.and_eq_true, decide_eq_true_eq, Bool.not_eq_true'] at hB
    obtain ⟨⟨⟨hr, ho⟩, hT⟩, hB'⟩ := hB
    obtain ⟨o, ho⟩ := Option.isSome_iff_exists.1 ho
    have ho' : l[k]? = some o := by simpa using ho
    have hkT : k ∉ T := by simpa using hT
    have hkr : k ∈ Region.ready md l.toArray listed := by rw [hr]; simp
    rw [getOps_cons ho'] at h
    rw [List.length_cons, show r.length + 1 + n = (r.length + n) + 1 by omega]
    intro W hW
    refine ⟨fun h1 => (by rw [hr] at h1; cases h1), fun i hi => .inl ?_⟩
    rw [hr] at hi
    have hik : i = k := by simpa using hi
    subst hik
    refine ⟨hkT, ?_⟩
    have h' := h W hW
    unfold ucOp
    simp only [ho]
    split
    · rename_i hwt
      simp only [hwt, if_true] at h'
      exact ucUpon_mono (fun a' W' _ h3 => wpAnyG2_newK hK r _ a' W' (inv.set hkr hkT) hB' h3) h'
    · rename_i hwt
      simp only [hwt] at h'
      exact wpAnyG2_newK hK r _ _ _ (inv.set hkr hkT) hB' h'

/-- The tail, in its own order. -/
def wpTailS (ρ : Pre) (P : Program) (ops : Array Oper) (Q : Act → World → Prop) : List Oper → Act → World → Prop
  | [], a, w => Q a w
  | o :: rest, a, w => if Region.wanted o (yielded ops a.tmps) then ucUpon ρ P o a w (wpTailS ρ P ops Q rest) ((execOp a.eval o).run P w) else wpTailS ρ P ops Q rest (a.put o.dst undef) w
theorem wpX_of_seqL {ρ : Pre} {Q : Act → World → Prop} {l : List Oper} : ∀ (ix : List Nat) (listed : Array Bool) (a : Act) (w : World),
    seqL md l.toArray ix listed = true → wpTailS ρ P l.toArray Q (getOps l ix) a w → wpX ρ P md l.toArray Q ix.length listed a w
  | [], _, _, _, hB, h => ⟨by simpa [seqL] using hB, h⟩
  | k :: r, listed, a, w, hB, h => by
    simp only [seqL, Bool.and_eq_true, decide_eq_true_eq] at hB
    obtain ⟨⟨hr, ho⟩, hB'⟩ := hB
    obtain ⟨o, ho⟩ := Option.isSome_iff_exists.1 ho
    have ho' : l[k]? = some o := by simpa using ho
    rw [getOps_cons ho'] at h
    refine ⟨fun h1 => (by rw [hr] at h1; cases h1), fun i hi => ?_⟩
    rw [hr] at hi
    have hik : i = k := by simpa using hi
    subst hik
    have hw : ucOp ρ P l.toArray i (wpTailS ρ P l.toArray Q (getOps l r)) a w := by unfold ucOp; simp only [ho]; exact h
    exact ucOp_mono (fun a' w' _ h' => wpX_of_seqL r _ a' w' hB' h') hw
/-- Into the writing part. -/
theorem wpAnyG2_turn {Q : Exit → Act → World → Prop} {T : List Nat} {l : List Oper} {t : Nat} {r : List Nat} (ht : t ∈ T) {listed : Array Bool} {a : Act} {w : World} (hB : seqL md l.toArray (t :: r) listed = true)
    (h : ∀ W, ρ₁.r w W → wpTailS ρ₂ P l.toArray (Q .normal) (getOps l (t :: r)) a W) : wpAnyG2 ρ₁ ρ₂ P md l.toArray Q T (t :: r).length listed a w := by
  have hB0 := hB
  simp only [seqL, Bool.and_eq_true, decide_eq_true_eq] at hB
  obtain ⟨⟨hr, ho⟩, hB'⟩ := hB
  intro W hW
  have H := wpX_of_seqL (ρ := ρ₂) (P := P) (Q := Q .normal) (t :: r) listed a W hB0 (h W hW)
  refine ⟨fun h1 => (by rw [hr] at h1; cases h1), fun i hi => .inr ?_⟩
  have h2 := H.2 i hi
  rw [hr] at hi
  have hik : i = t := by simpa using hi
  subst hik
  exact ⟨ht, h2⟩

def twoB (md : Region.Mode) (ops : Array Oper) (ns D N : List Nat) (t : Nat) (T : List Nat) : Bool :=
  Region.noSelect ops && (D ++ N ++ (t :: T)).length == ops.size && chainL md ops (t :: T) && sinkL md ops ns t (D ++ N) &&
    ((D ++ N ++ (t :: T)).all fun i => decide (i < ops.size)) && headK md ops (t :: T) (newK md ops (t :: T) (seqL md ops (t :: T)) N) D (Array.replicate ops.size false)
theorem region_twoG {id : Nat} {Q : Exit → Act → World → Prop} {a : Act} {w : World} {l : List Oper} (hρ : ∀ {a b}, ρ₁.r a b → ρ₂.r a b) (ns D N : List Nat) (t : Nat) (T : List Nat) (hm : P.follows .mixedOrders = true) (hB : twoB .any l.toArray ns D N t T = true)
    (h : wpUp2 ρ₁ ρ₂ P l.toArray w.drew (fun a' W => wpNew ρ₁ P l.toArray (fun a' W => ∀ W', ρ₁.r W W' → wpTailS ρ₂ P l.toArray (Q .normal) (getOps l (t :: T)) a' W') (getOps l N) a' W) ns D (getOps l D) a) : (Code.region id l.toArray true).wp P Q a w := by
  simp only [twoB, Bool.and_eq_true, beq_iff_eq] at hB
  obtain ⟨⟨⟨⟨⟨hsel, hlen⟩, hc⟩, hs⟩, hlt⟩, hB⟩ := hB
  have lt : ∀ i ∈ D ++ N ++ (t :: T), i < l.toArray.size := fun i hi => by have := List.all_eq_true.1 hlt i hi; simpa using this
  have inv0 : HeadI .any l.toArray (t :: T) (Array.replicate l.toArray.size false) :=
    ⟨by simp, fun j oj _ hl => (by rw [getD_replicate_false] at hl; cases hl), fun x hx => by
      have h1 : x < l.toArray.size := lt x (List.mem_append_right _ hx)
      exact getD_in (by simpa using h1) (getD_replicate_false _ _)⟩
  have hw1 : ∀ i ∈ D ++ N, ∀ listed, HeadI .any l.toArray (t :: T) listed → ns.contains i = false → listed.getD i true = false → ∀ x ∈ t :: T, x ∉ Region.ready .any l.toArray listed :=
    fun i hi listed inv hns hun x hx => sink_waits hc inv (D ++ N) hs (fun j hj => lt j (List.mem_append_left _ hj)) i hi hns hun x hx
  have H := wpAnyG2_headK (md := .any) (Q := Q) (ns := ns) (n := N.length + (t :: T).length) hρ
    (fun listed a w inv hk hC => wpAnyG2_newK (n := (t :: T).length) (fun listed a w inv hk hC => wpAnyG2_turn (by simp) hk hC) N listed a w inv hk hC) hsel D _ a
    (fun i hi => hw1 i (List.mem_append_left _ hi)) inv0 hB h
  refine wp_region_any hm ?_
  have := wpAny_of_G2 _ _ _ _ H
  rw [show l.toArray.size = D.length + (N.length + (t :: T).length) by rw [← hlen]; simp [Nat.add_assoc]]
  rw [show l.toArray.size = D.length + (N.length + (t :: T).length) by rw [← hlen]; simp [Nat.add_assoc]] at this
  exact this
/-- The law for 'only new memory', then 'only blocks of S and new memory'. -/
theorem region_two {id : Nat} {Q : Exit → Act → World → Prop} {a : Act} {w : World} {l : List Oper} (S : Nat → Prop) (ns D N : List Nat) (t : Nat) (T : List Nat) (hm : P.follows .mixedOrders = true) (hB : twoB .any l.toArray ns D N t T = true)
    (h : wpUp2 upPre (chgPre S) P l.toArray w.drew (fun a' W => wpNew upPre P l.toArray (fun a' W => ∀ W', Up W W' → wpTailS (chgPre S) P l.toArray (Q .normal) (getOps l (t :: T)) a' W') (getOps l N) a' W) ns D (getOps l D) a) : (Code.region id l.toArray true).wp P Q a w :=
  region_twoG (ρ₁ := upPre) (ρ₂ := chgPre S) (fun h => Chg.of_up h) ns D N t T hm hB h
end
section steps
variable {P : Program} {ops : Array Oper} {w : World} {Q : Act → World → Prop} {a : Act} {ns ix : List Nat} {i : Nat} {o : Oper} {rest : List Oper} {v : Value} {S : Nat → Prop}
theorem wpUp2_nil (h : ∀ W, Up w W → Q a W) : wpUp2 upPre (chgPre S) P ops w Q ns [] [] a := h
/-- One that must be done ahead of the writing. -/
theorem wpUp2_step (hk : ns.contains i = false) (hg : o.guard = none)
    (h : ∀ W, Up w W → upUpon upPre P W v ((execOp a.eval o).run P W)) (hn : wpUp2 upPre (chgPre S) P ops w Q ns ix rest (a.put o.dst v)) : wpUp2 upPre (chgPre S) P ops w Q ns (i :: ix) (o :: rest) a :=
  ⟨v, .inl ⟨by simp [Region.wanted, hg], h⟩, fun h0 => (by rw [hk] at h0; cases h0), hn⟩
/-- One that only reads, and may come late. -/
theorem wpUp2_read (hg : o.guard = none)
    (h : ∀ W, Chg S w W → (execOp a.eval o).run P W = .ok (.value v) W) (hn : wpUp2 upPre (chgPre S) P ops w Q ns ix rest (a.put o.dst v)) : wpUp2 upPre (chgPre S) P ops w Q ns (i :: ix) (o :: rest) a :=
  ⟨v, .inl ⟨by simp [Region.wanted, hg], fun W hW => by rw [h W (Chg.of_up hW)]; exact ⟨rfl, Up.refl _⟩⟩, fun _ => .inl ⟨by simp [Region.wanted, hg], fun W hW => h W hW⟩, hn⟩
theorem wpTailS_nil (h : Q a w) : wpTailS (chgPre S) P ops Q [] a w := h
theorem wpTailS_step (hg : o.guard = none) (h : ∀ K : Act → World → Prop, (∀ a W, wpTailS (chgPre S) P ops Q rest a W → K a W) → ucUpon (chgPre S) P o a w K ((execOp a.eval o).run P w)) : wpTailS (chgPre S) P ops Q (o :: rest) a w := by
  unfold wpTailS
  rw [if_pos (by simp [Region.wanted, hg])]
  exact h _ fun _ _ h => h
theorem sUpon_value {W W' : World} {u : Value} {K : Act → World → Prop} : ucUpon (chgPre S) P o a W K (.ok (.value u) W') = (Chg S W W' ∧ K (a.put o.dst u) W') := rfl
theorem sUpon_skip {W W' : World} {K : Act → World → Prop} : ucUpon (chgPre S) P o a W K (.ok .skip W') = (Chg S W W' ∧ K (a.put o.dst undef) W') := rfl
theorem sUpon_enter {W W' : World} {f : FuncId} {args : Array Value} {K : Act → World → Prop} : ucUpon (chgPre S) P o a W K (.ok (.enter f args) W') = Calls P f args W' (fun e W'' => ∃ u, e = .returned u ∧ Chg S W W'' ∧ K (a.put o.dst u) W'') := rfl
end steps
end Go.Proofs.YtalmjdlcogdpmaaGreatDoor

namespace Go.Proofs.YtalmjdlcogdpmaaGreatDoor
open Go Go.RowKit
inductive Plan where
  | done
  | one (k : Nat) (p : Plan)
  | two (k : Nat) (p : Plan) (j : Nat) (q : Plan)
  | head (D : List Nat) (p : Plan)
def Plan.len (n : Nat) : Plan → Nat
  | .done => n
  | .one _ p => p.len n + 1
  | .two _ p _ _ => p.len n + 1
  | .head D p => D.length + p.len n
section
variable {ρ : Pre} {P : Program} {ops : Array Oper} {md : Region.Mode}
def planB (md : Region.Mode) (ops : Array Oper) (T : List Nat) : Plan → Array Bool → Bool
  | .done, listed => seqL md ops T listed
  | .one k p, listed => decide (Region.ready md ops listed = [k]) && (ops[k]?).isSome && !T.contains k && planB md ops T p (listed.setIfInBounds k true)
  | .two k p j q, listed => decide (Region.ready md ops listed = [k, j]) && (ops[k]?).isSome && (ops[j]?).isSome && !T.contains k && !T.contains j && decide (p.len T.length = q.len T.length) &&
      planB md ops T p (listed.setIfInBounds k true) && planB md ops T q (listed.setIfInBounds j true)
  | .head D p, listed => headK md ops T (planB md ops T p) D listed
/-- The numbers of a plan. -/
def Plan.nums : Plan → List Nat
  | .done => []
  | .one k p => k :: p.nums
  | .two k p j q => k :: j :: (p.nums ++ q.nums)
  | .head D p => D ++ p.nums
/-- A way through a plan, for the waiting. -/
def Plan.way : Plan → List Nat
  | .done => []
  | .one k p => k :: p.way
  | .two k p _ _ => k :: p.way
  | .head D p => D ++ p.way
/-- An operation that at most makes memory, and what follows. -/
def opNew (ρ : Pre) (P : Program) (ops : Array Oper) (C : Act → World → Prop) (o : Oper) (a : Act) (W : World) : Prop :=
  if Region.wanted o (yielded ops a.tmps) then ucUpon ρ P o a W C ((execOp a.eval o).run P W) else C (a.put o.dst undef) W
def wpPlan (ρ : Pre) (P : Program) (l : List Oper) (Q : Exit → Act → World → Prop) (ns T : List Nat) : Plan → Act → World → Prop
  | .done, a, w => ∀ W, ρ.r w W → wpList P l.toArray Q (getOps l T) a W
  | .one k p, a, w => ∀ o, l[k]? = some o → ∀ W, ρ.r w W → opNew ρ P l.toArray (wpPlan ρ P l Q ns T p) o a W
  | .two k p j q, a, w => (∀ o, l[k]? = some o → ∀ W, ρ.r w W → opNew ρ P l.toArray (wpPlan ρ P l Q ns T p) o a W) ∧ (∀ o, l[j]? = some o → ∀ W, ρ.r w W → opNew ρ P l.toArray (wpPlan ρ P l Q ns T q) o a W)
  | .head D p, a, w => wpUp ρ P l.toArray w (wpPlan ρ P l Q ns T p) ns D (getOps l D) a

theorem ucOp_new {l : List Oper} {k : Nat} {o : Oper} (ho : l.toArray[k]? = some o) {C K : Act → World → Prop} {a : Act} {W : World} (h : ∀ a W', ρ.r W W' → C a W' → K a W') (hn : opNew ρ P l.toArray C o a W) : ucOp ρ P l.toArray k K a W := by
  unfold ucOp
  unfold opNew at hn
  simp only [ho]
  split
  · rename_i hwt
    simp only [hwt, if_true] at hn
    exact ucUpon_mono (fun a' W' hW' h3 => h _ _ hW' h3) hn
  · rename_i hwt
    simp only [hwt] at hn
    exact h _ _ (ρ.refl _) hn

theorem wpAnyG_plan {Q : Exit → Act → World → Prop} {l : List Oper} {T ns : List Nat} (hsel : Region.noSelect l.toArray = true)
    (hQ : ∀ i, ns.contains i = true → ∀ d v c a w, Q (.panic c) (Act.put a d v) w → Q (.panic c) a w) :
    ∀ (p : Plan), (∀ i ∈ p.nums, ∀ listed, HeadI md l.toArray T listed → ns.contains i = false → listed.getD i true = false → ∀ t ∈ T, t ∉ Region.ready md l.toArray listed) →
      ∀ (listed : Array Bool) (a : Act) (w : World), HeadI md l.toArray T listed → planB md l.toArray T p listed = true → wpPlan ρ P l Q ns T p a w → wpAnyG ρ P md l.toArray Q T (p.len T.length) listed a w
  | .done, _, listed, a, w, inv, hB, h => by
    have hB' : seqL md l.toArray T listed = true := hB
    exact G_of_wpAny (seqL_ready hB') fun W hW => wpAny_of_seqL T listed a W hB' (h W hW)
  | .one k p, hw, listed, a, w, inv, hB, h => by
    simp only [planB, Bool.and_eq_true, decide_eq_true_eq, Bool.not_eq_true'] at hB
    obtain ⟨⟨⟨hr, ho⟩, hT⟩, hB'⟩ := hB
    obtain ⟨o, ho⟩ := Option.isSome_iff_exists.1 ho
    have ho' : l[k]? = some o := by simpa using ho
    have hkT : k ∉ T := by simpa using hT
    have hkr : k ∈ Region.ready md l.toArray listed := by rw [hr]; simp
    intro W hW
    refine ⟨fun h1 => (by rw [hr] at h1; cases h1), fun i hi => .inl ?_⟩
    rw [hr] at hi
    have hik : i = k := by simpa using hi
    subst hik
    exact ucOp_new ho (fun a' W' _ h3 => wpAnyG_plan hsel hQ p (fun i hi => hw i (List.mem_cons_of_mem _ hi)) _ a' W' (inv.set hkr hkT) hB' h3) (h o ho' W hW)
  | .two k p j q, hw, listed, a, w, inv, hB, h => by
    simp only [planB, Bool.and_eq_true, decide_eq_true_eq, Bool.not_eq_true'] at hB
    obtain ⟨⟨⟨⟨⟨⟨⟨hr, hok⟩, hoj⟩, hTk⟩, hTj⟩, hlen⟩, hBp⟩, hBq⟩ := hB
    obtain ⟨o, ho⟩ := Option.isSome_iff_exists.1 hok
    have ho' : l[k]? = some o := by simpa using ho
    obtain ⟨o2, ho2⟩ := Option.isSome_iff_exists.1 hoj
    have ho2' : l[j]? = some o2 := by simpa using ho2
    have hkT : k ∉ T := by simpa using hTk
    have hjT : j ∉ T := by simpa using hTj
    have hkr : k ∈ Region.ready md l.toArray listed := by rw [hr]; simp
    have hjr : j ∈ Region.ready md l.toArray listed := by rw [hr]; simp
    intro W hW
    refine ⟨fun h1 => (by rw [hr] at h1; cases h1), fun i hi => .inl ?_⟩
    rw [hr] at hi
    have hik : i = k ∨ i = j := by simpa using hi
    rcases hik with hik | hik
    · subst hik
      exact ucOp_new ho (fun a' W' _ h3 => wpAnyG_plan hsel hQ p (fun i hi => hw i (List.mem_cons_of_mem _ (List.mem_cons_of_mem _ (List.mem_append_left _ hi)))) _ a' W' (inv.set hkr hkT) hBp h3) (h.1 o ho' W hW)
    · subst hik
      refine ucOp_new ho2 (fun a' W' _ h3 => ?_) (h.2 o2 ho2' W hW)
      have := wpAnyG_plan hsel hQ q (fun i hi => hw i (List.mem_cons_of_mem _ (List.mem_cons_of_mem _ (List.mem_append_right _ hi)))) _ a' W' (inv.set hjr hjT) hBq h3
      rw [← hlen] at this
      exact this
  | .head D p, hw, listed, a, w, inv, hB, h =>
    wpAnyG_headK (n := p.len T.length) (fun listed a w inv hk hC => wpAnyG_plan hsel hQ p (fun i hi => hw i (List.mem_append_right _ hi)) listed a w inv hk hC) hsel hQ D listed a
      (fun i hi => hw i (List.mem_append_left _ hi)) inv hB h

def upPB (md : Region.Mode) (ops : Array Oper) (ns : List Nat) (p : Plan) (t : Nat) (T : List Nat) : Bool :=
  Region.noSelect ops && p.len (t :: T).length == ops.size && chainL md ops (t :: T) && sinkL md ops ns t p.way && (p.way.all fun i => decide (i < ops.size)) && (p.nums.all fun i => p.way.contains i) && ((t :: T).all fun i => decide (i < ops.size)) &&
    planB md ops (t :: T) p (Array.replicate ops.size false)
theorem region_planG {id : Nat} {Q : Exit → Act → World → Prop} {a : Act} {w : World} {l : List Oper} (ns : List Nat) (p : Plan) (t : Nat) (T : List Nat) (hm : P.follows .mixedOrders = true) (hB : upPB .any l.toArray ns p t T = true)
    (hQ : ∀ i, ns.contains i = true → ∀ d v c a w, Q (.panic c) (Act.put a d v) w → Q (.panic c) a w)
    (h : wpPlan ρ P l Q ns (t :: T) p a w.drew) : (Code.region id l.toArray true).wp P Q a w := by
  simp only [upPB, Bool.and_eq_true, beq_iff_eq] at hB
  obtain ⟨⟨⟨⟨⟨⟨⟨hsel, hlen⟩, hc⟩, hs⟩, hlt⟩, hnw⟩, hTl⟩, hB⟩ := hB
  have inv0 : HeadI .any l.toArray (t :: T) (Array.replicate l.toArray.size false) :=
    ⟨by simp, fun j oj _ hl => (by rw [getD_replicate_false] at hl; cases hl), fun u hu => by
      have h1 : u < l.toArray.size := by have := List.all_eq_true.1 hTl u hu; simpa using this
      exact getD_in (by simpa using h1) (getD_replicate_false _ _)⟩
  have hw : ∀ i ∈ p.nums, ∀ listed, HeadI .any l.toArray (t :: T) listed → ns.contains i = false → listed.getD i true = false → ∀ u ∈ t :: T, u ∉ Region.ready .any l.toArray listed :=
    fun i hi listed inv hns hun u hu => sink_waits hc inv p.way hs (fun j hj => by have := List.all_eq_true.1 hlt j hj; simpa using this) i (by have := List.all_eq_true.1 hnw i hi; simpa using this) hns hun u hu
  have H := wpAnyG_plan (md := .any) (Q := Q) (ns := ns) hsel hQ p hw _ a w.drew inv0 hB h
  refine wp_region_any hm ?_
  have := wpAny_of_G _ _ _ _ H
  rw [hlen] at this
  exact this
theorem region_plan0 {id : Nat} {Q : Exit → Act → World → Prop} {a : Act} {w : World} {l : List Oper} (p : Plan) (t : Nat) (T : List Nat) (hm : P.follows .mixedOrders = true) (hB : upPB .any l.toArray [] p t T = true)
    (h : wpPlan upPre P l Q [] (t :: T) p a w.drew) : (Code.region id l.toArray true).wp P Q a w := region_planG [] p t T hm hB (fun i hi => by simp at hi) h
theorem region_plan {id : Nat} {Q : Exit → Act → World → Prop} {a : Act} {w : World} {l : List Oper} (ns : List Nat) (p : Plan) (t : Nat) (T : List Nat) (hm : P.follows .mixedOrders = true) (hB : upPB .any l.toArray ns p t T = true)
    (hQ : ∀ d v c a w, Q (.panic c) (Act.put a d v) w → Q (.panic c) a w)
    (h : wpPlan upPre P l Q ns (t :: T) p a w.drew) : (Code.region id l.toArray true).wp P Q a w := region_planG ns p t T hm hB (fun _ _ => hQ) h
end
section steps
variable {P : Program} {l : List Oper} {Q : Exit → Act → World → Prop} {ns T : List Nat} {a : Act} {w : World} {k j : Nat} {p q : Plan} {o o2 : Oper}
theorem plan_done (h : ∀ W, Up w W → wpList P l.toArray Q (getOps l T) a W) : wpPlan upPre P l Q ns T .done a w := h
theorem plan_head {D : List Nat} (h : wpUp upPre P l.toArray w (wpPlan upPre P l Q ns T p) ns D (getOps l D) a) : wpPlan upPre P l Q ns T (.head D p) a w := h
theorem plan_one (ho : l[k]? = some o) (hg : o.guard = none)
    (h : ∀ W, Up w W → ∀ K : Act → World → Prop, (∀ a W, wpPlan upPre P l Q ns T p a W → K a W) → ucUpon upPre P o a W K ((execOp a.eval o).run P W)) : wpPlan upPre P l Q ns T (.one k p) a w := by
  intro o' ho' W hW
  rw [ho] at ho'; cases ho'
  unfold opNew
  rw [if_pos (by simp [Region.wanted, hg])]
  exact h W hW _ fun _ _ h => h
theorem plan_two (ho : l[k]? = some o) (hg : o.guard = none) (ho2 : l[j]? = some o2) (hg2 : o2.guard = none)
    (h : ∀ W, Up w W → ∀ K : Act → World → Prop, (∀ a W, wpPlan upPre P l Q ns T p a W → K a W) → ucUpon upPre P o a W K ((execOp a.eval o).run P W))
    (h2 : ∀ W, Up w W → ∀ K : Act → World → Prop, (∀ a W, wpPlan upPre P l Q ns T q a W → K a W) → ucUpon upPre P o2 a W K ((execOp a.eval o2).run P W)) : wpPlan upPre P l Q ns T (.two k p j q) a w :=
  ⟨plan_one (p := p) ho hg h, plan_one (p := q) ho2 hg2 h2⟩
end steps
end Go.Proofs.YtalmjdlcogdpmaaGreatDoor

namespace Go.Proofs.YtalmjdlcogdpmaaGreatDoor
open Go Go.RowKit

def anyPre : Pre := ⟨fun _ _ => True, fun _ => trivial, fun _ _ => trivial⟩
section
variable {ρ : Pre} {P : Program} {ops : Array Oper} {md : Region.Mode}

theorem ucOp_any {i : Nat} {K K' : Act → World → Prop} {a : Act} {W : World} (h : ∀ a W', ρ.r W W' → K a W' → K' a W') (hh : ucOp ρ P ops i K a W) : ucOp anyPre P ops i K' a W := by
  unfold ucOp at *
  split
  · rename_i ho; simp only [ho] at hh; exact h _ _ (ρ.refl _) hh
  · rename_i o ho
    simp only [ho] at hh
    split
    · rename_i hw
      simp only [hw, if_true] at hh
      generalize (execOp a.eval o).run P W = r at *
      cases r with
      | ok n W' =>
        cases n <;> simp only [ucUpon] at hh ⊢
        case value u => exact ⟨trivial, h _ _ hh.1 hh.2⟩
        case skip => exact ⟨trivial, h _ _ hh.1 hh.2⟩
        case enter f args => exact hh.mono fun e W'' ⟨u, he, h1, h2⟩ => ⟨u, he, trivial, h _ _ h1 h2⟩
        case row row args => exact hh.mono fun u W'' ⟨h1, h2⟩ => ⟨trivial, h _ _ h1 h2⟩
      | halt x W' => simp only [ucUpon] at hh
    · rename_i hw; simp only [hw] at hh; exact h _ _ (ρ.refl _) hh

/-- A pure operation beside another one. -/
theorem ucOp_pure {W : World} {j : Nat} {oi oj : Oper} {v : Value} (hj : ops[j]? = some oj) (hap : oi.apart ops oj = true)
    (hsi : ∀ cs b, oi.op ≠ .select cs b) (hsj : ∀ cs b, oj.op ≠ .select cs b) {K : Act → World → Prop} {a : Act}
    (hyn : Yields P ops oi v a) (h : ucOp ρ P ops j K (a.put oi.dst v) W) :
    ucOp ρ P ops j (fun a' W' => Yields P ops oi v a' ∧ K (a'.put oi.dst v) W') a W := by
  obtain ⟨h1, h2, h3⟩ := Oper.apart_spec hap
  have keep : ∀ u, Yields P ops oi v (a.put oj.dst u) := fun u => hyn.of_same (execOp_put oi hsi a oj.dst u h3) (wanted_put oi a oj.dst u h3)
  unfold ucOp at *
  simp only [hj] at *
  rw [wanted_put oj a oi.dst v h1] at h
  split
  · rename_i hw
    simp only [hw, if_true] at h
    rw [execOp_put oj hsj a oi.dst v h1] at h
    generalize (execOp a.eval oj).run P W = r at *
    cases r with
    | ok n W' =>
      cases n <;> simp only [ucUpon] at h ⊢
      case value u => exact ⟨h.1, keep u, by rw [← Act.put_comm a v u h2]; exact h.2⟩
      case skip => exact ⟨h.1, keep _, by rw [← Act.put_comm a v undef h2]; exact h.2⟩
      case enter f args => exact h.mono fun e W'' ⟨u, he, hu, hk⟩ => ⟨u, he, hu, keep u, by rw [← Act.put_comm a v u h2]; exact hk⟩
      case row row args => exact h.mono fun u W'' ⟨hu, hk⟩ => ⟨hu, keep u, by rw [← Act.put_comm a v u h2]; exact hk⟩
    | halt x W' => simp only [ucUpon] at h
  · rename_i hw
    simp only [hw] at h
    exact ⟨keep _, by rw [← Act.put_comm a v undef h2]; exact h⟩
theorem yields_ucOp {i : Nat} {o : Oper} {v : Value} {a : Act} {W : World} (hi : ops[i]? = some o) (hy : Yields P ops o v a) {K : Act → World → Prop} (h : K (a.put o.dst v) W) : ucOp ρ P ops i K a W := by
  unfold Go.Proofs.YtalmjdlcogdpmaaGreatDoor.ucOp
  simp only [hi]
  rcases hy with ⟨hw, hv⟩ | ⟨hw, rfl⟩
  · simp only [hw, if_true, hv W, ucUpon]; exact ⟨ρ.refl _, h⟩
  · simp only [hw, Bool.false_eq_true, if_false]; exact h

/-- Whatever order is picked, no operation panics. -/
def wpAnyX (P : Program) (md : Region.Mode) (ops : Array Oper) (Q : Exit → Act → World → Prop) : Nat → Array Bool → Act → World → Prop
  | 0, listed, a, w => Region.ready md ops listed = [] ∧ Q .normal a w
  | f + 1, listed, a, w => (Region.ready md ops listed = [] → Q .normal a w) ∧ ∀ i ∈ Region.ready md ops listed, ucOp anyPre P ops i (wpAnyX P md ops Q f (listed.setIfInBounds i true)) a w

theorem wpAnyX_first {Q : Exit → Act → World → Prop} {i : Nat} {oi : Oper} {v : Value} (hi : ops[i]? = some oi) (hsel : ∀ (j : Nat) (o : Oper) cs b, ops[j]? = some o → o.op ≠ .select cs b) :
    ∀ (f : Nat) (listed : Array Bool) (a : Act) (w : World),
      (∀ j oj, ops[j]? = some oj → j ≠ i → listed.getD j true = false → (∀ e ∈ oj.after, Region.binds md e = true → e.on ≠ i) → oi.apart ops oj = true) →
      i ∈ Region.ready md ops listed → Yields P ops oi v a → wpAnyX P md ops Q f (listed.setIfInBounds i true) (a.put oi.dst v) w → wpAnyX P md ops Q (f + 1) listed a w := by
  intro f
  induction f with
  | zero =>
    intro listed a w _ hr hy H
    refine ⟨fun h => (by rw [h] at hr; cases hr), fun j hj => ?_⟩
    by_cases hji : j = i
    · subst hji; exact yields_ucOp hi hy H
    · have := ready_mono hj hji
      rw [H.1] at this
      cases this
  | succ f ih =>
    intro listed a w hfree hr hy H
    refine ⟨fun h => (by rw [h] at hr; cases hr), fun j hj => ?_⟩
    by_cases hji : j = i
    · subst hji; exact yields_ucOp hi hy H
    · have h1 := H.2 j (ready_mono hj hji)
      obtain ⟨hjun, oj, hoj, hall⟩ := mem_ready.1 hj
      have hnot : ∀ e ∈ oj.after, Region.binds md e = true → e.on ≠ i := fun e he hb heq => by
        have h1 := hall e he hb
        have h0 := (mem_ready.1 hr).1
        rw [heq] at h1
        rcases Nat.lt_or_ge i listed.size with h' | h'
        · simp [h'] at h0 h1; rw [h0] at h1; cases h1
        · simp [Array.getElem?_eq_none h'] at h1
      have h2 := ucOp_pure hoj (hfree j oj hoj hji hjun hnot) (fun cs b => hsel i oi cs b hi) (fun cs b => hsel j oj cs b hoj) hy h1
      have hfree' : ∀ k ok, ops[k]? = some ok → k ≠ i → (listed.setIfInBounds j true).getD k true = false →
          (∀ e ∈ ok.after, Region.binds md e = true → e.on ≠ i) → oi.apart ops ok = true := fun k ok hk hki hun hno => by
        refine hfree k ok hk hki ?_ hno
        by_cases hjk : j = k
        · subst hjk; exact hjun
        · rw [getD_set_ne true hjk] at hun; exact hun
      refine ucOp_mono (fun a' W' _ h3 => ih (listed.setIfInBounds j true) a' W' hfree' (ready_mono hr (Ne.symm hji)) h3.1 ?_) h2
      rw [Array.setIfInBounds_comm _ _ hji]
      exact h3.2

/-- The head in whatever order, in whatever world above; what comes up of the tail T is walked as ever. -/
def wpAnyH (ρ : Pre) (P : Program) (md : Region.Mode) (ops : Array Oper) (Q : Exit → Act → World → Prop) (T : List Nat) : Nat → Array Bool → Act → World → Prop
  | 0, listed, a, w => ∀ W, ρ.r w W → Region.ready md ops listed = [] ∧ Q .normal a W
  | f + 1, listed, a, w => ∀ W, ρ.r w W → (Region.ready md ops listed = [] → Q .normal a W) ∧
    ∀ i ∈ Region.ready md ops listed, ucOp ρ P ops i (wpAnyH ρ P md ops Q T f (listed.setIfInBounds i true)) a W ∨ (i ∈ T ∧ ucOp anyPre P ops i (wpAnyX P md ops Q f (listed.setIfInBounds i true)) a W)

section
variable {Q : Exit → Act → World → Prop} {T : List Nat}
theorem wpAnyH_up : ∀ {f : Nat} {listed : Array Bool} {a : Act} {w W : World}, wpAnyH ρ P md ops Q T f listed a w → ρ.r w W → wpAnyH ρ P md ops Q T f listed a W
  | 0, _, _, _, _, h, hu => fun W' hW => h W' (ρ.trans hu hW)
  | _ + 1, _, _, _, _, h, hu => fun W' hW => h W' (ρ.trans hu hW)

theorem wpAnyX_of_H : ∀ (f : Nat) (listed : Array Bool) (a : Act) (w : World), wpAnyH ρ P md ops Q T f listed a w → wpAnyX P md ops Q f listed a w
  | 0, _, _, w, h => h w (ρ.refl _)
  | f + 1, listed, a, w, h => by
    have h := h w (ρ.refl _)
    exact ⟨h.1, fun i hi => (h.2 i hi).elim (fun hu => ucOp_any (fun a' W' _ h' => wpAnyX_of_H f _ a' W' h') hu) fun hw => hw.2⟩

/-- No other operation than the tail's is left. -/
theorem H_of_wpAnyX : ∀ {f : Nat} {listed : Array Bool} {a : Act} {w : World}, (∀ j ∈ Region.ready md ops listed, j ∈ T) → (∀ W, ρ.r w W → wpAnyX P md ops Q f listed a W) → wpAnyH ρ P md ops Q T f listed a w
  | 0, _, _, _, _, h => fun W hW => h W hW
  | _ + 1, _, _, _, hd, h => fun W hW => ⟨(h W hW).1, fun i hi => .inr ⟨hd i hi, (h W hW).2 i hi⟩⟩
end


theorem wpAnyH_first {Q : Exit → Act → World → Prop} {T : List Nat} {i : Nat} {ns : List Nat} {oi : Oper} {v : Value} (hi : ops[i]? = some oi) (hsel : ∀ (j : Nat) (o : Oper) cs b, ops[j]? = some o → o.op ≠ .select cs b)
    (hin : i ∉ T) (hwait : ∀ listed, HeadI md ops T listed → ns.contains i = false → listed.getD i true = false → ∀ t ∈ T, t ∉ Region.ready md ops listed) :
    ∀ (f : Nat) (listed : Array Bool) (a : Act) (w : World), HeadI md ops T listed →
      (∀ j oj, ops[j]? = some oj → j ≠ i → listed.getD j true = false → (∀ e ∈ oj.after, Region.binds md e = true → e.on ≠ i) → oi.apart ops oj = true) →
      i ∈ Region.ready md ops listed → YieldsUp ρ P ops w oi v a → (ns.contains i = true → Yields P ops oi v a) →
      wpAnyH ρ P md ops Q T f (listed.setIfInBounds i true) (a.put oi.dst v) w → wpAnyH ρ P md ops Q T (f + 1) listed a w := by
  intro f
  induction f with
  | zero =>
    intro listed a w inv _ hr hy _ H W hW
    refine ⟨fun h => (by rw [h] at hr; cases hr), fun j hj => ?_⟩
    by_cases hji : j = i
    · subst hji; exact .inl (hy.ucOp hi hW fun W' hW' => wpAnyH_up H (ρ.trans hW hW'))
    · have := ready_mono hj hji
      rw [(H w (ρ.refl _)).1] at this
      cases this
  | succ f ih =>
    intro listed a w inv hfree hr hy hyn H W hW
    have hun := (mem_ready.1 hr).1
    refine ⟨fun h => (by rw [h] at hr; cases hr), fun j hj => ?_⟩
    by_cases hji : j = i
    · subst hji; exact .inl (hy.ucOp hi hW fun W' hW' => wpAnyH_up H (ρ.trans hW hW'))
    · have h1 := (H W hW).2 j (ready_mono hj hji)
      obtain ⟨hjun, oj, hoj, hall⟩ := mem_ready.1 hj
      have hnot : ∀ e ∈ oj.after, Region.binds md e = true → e.on ≠ i := fun e he hb heq => by
        have h1 := hall e he hb
        rw [heq, getD_both hun] at h1
        cases h1
      have hfree' : ∀ k ok, ops[k]? = some ok → k ≠ i → (listed.setIfInBounds j true).getD k true = false →
          (∀ e ∈ ok.after, Region.binds md e = true → e.on ≠ i) → oi.apart ops ok = true := fun k ok hk hki hun hno => by
        refine hfree k ok hk hki ?_ hno
        by_cases hjk : j = k
        · subst hjk; exact hjun
        · rw [getD_set_ne true hjk] at hun; exact hun
      by_cases hjT : j ∈ T
      · have hnsi : ns.contains i = true := by
          cases hc0 : ns.contains i with
          | true => rfl
          | false => exact absurd hj (hwait listed inv hc0 hun j hjT)
        have h1' : ucOp anyPre P ops j (wpAnyX P md ops Q f ((listed.setIfInBounds i true).setIfInBounds j true)) (a.put oi.dst v) W :=
          h1.elim (fun hu => ucOp_any (fun a' W' _ h' => wpAnyX_of_H f _ a' W' h') hu) fun hw => hw.2
        have h2 := ucOp_pure hoj (hfree j oj hoj hji hjun hnot) (fun cs b => hsel i oi cs b hi) (fun cs b => hsel j oj cs b hoj) (hyn hnsi) h1'
        refine .inr ⟨hjT, ucOp_mono (fun a' W' _ h3 => wpAnyX_first hi hsel f _ a' W' hfree' (ready_mono hr (Ne.symm hji)) h3.1 ?_) h2⟩
        rw [Array.setIfInBounds_comm _ _ hji]
        exact h3.2
      · have h1' : ucOp ρ P ops j (wpAnyH ρ P md ops Q T f ((listed.setIfInBounds i true).setIfInBounds j true)) (a.put oi.dst v) W :=
          h1.elim id fun hw => absurd hw.1 hjT
        have h2 : ucOp ρ P ops j (fun a' W' => (YieldsUp ρ P ops w oi v a' ∧ (ns.contains i = true → Yields P ops oi v a')) ∧ wpAnyH ρ P md ops Q T f ((listed.setIfInBounds i true).setIfInBounds j true) (a'.put oi.dst v) W') a W :=
          ucOp_put2 hoj (hfree j oj hoj hji hjun hnot) (fun cs b => hsel i oi cs b hi) (fun cs b => hsel j oj cs b hoj) hy hyn h1'
        refine .inl (ucOp_mono (fun a' W' hW' h3 => ih (listed.setIfInBounds j true) a' W' (inv.set hj hjT) hfree' (ready_mono hr (Ne.symm hji)) (h3.1.1.up (ρ.trans hW hW')) h3.1.2 ?_) h2)
        rw [Array.setIfInBounds_comm _ _ hji]
        exact h3.2

/-- The tail, in its own order; no panic. -/
def wpTail (P : Program) (ops : Array Oper) (Q : Act → World → Prop) : List Oper → Act → World → Prop
  | [], a, w => Q a w
  | o :: rest, a, w => if Region.wanted o (yielded ops a.tmps) then ucUpon anyPre P o a w (wpTail P ops Q rest) ((execOp a.eval o).run P w) else wpTail P ops Q rest (a.put o.dst undef) w
theorem wpAnyX_of_seqL {Q : Exit → Act → World → Prop} {l : List Oper} : ∀ (ix : List Nat) (listed : Array Bool) (a : Act) (w : World),
    seqL md l.toArray ix listed = true → wpTail P l.toArray (Q .normal) (getOps l ix) a w → wpAnyX P md l.toArray Q ix.length listed a w
  | [], _, _, _, hB, h => ⟨by simpa [seqL] using hB, h⟩
  | k :: r, listed, a, w, hB, h => by
    simp only [seqL, Bool.and_eq_true, decide_eq_true_eq] at hB
    obtain ⟨⟨hr, ho⟩, hB'⟩ := hB
    obtain ⟨o, ho⟩ := Option.isSome_iff_exists.1 ho
    have ho' : l[k]? = some o := by simpa using ho
    rw [getOps_cons ho'] at h
    refine ⟨fun h1 => (by rw [hr] at h1; cases h1), fun i hi => ?_⟩
    rw [hr] at hi
    have hik : i = k := by simpa using hi
    subst hik
    have hw : ucOp anyPre P l.toArray i (wpTail P l.toArray (Q .normal) (getOps l r)) a w := by unfold ucOp; simp only [ho]; exact h
    exact ucOp_mono (fun a' w' _ h' => wpAnyX_of_seqL r _ a' w' hB' h') hw

theorem wpAnyH_new {Q : Exit → Act → World → Prop} {T : List Nat} {l : List Oper} : ∀ (ix : List Nat) (listed : Array Bool) (a : Act) (w : World),
    newL md l.toArray T ix listed = true → wpNew ρ P l.toArray (fun a' W => wpTail P l.toArray (Q .normal) (getOps l T) a' W) (getOps l ix) a w → wpAnyH ρ P md l.toArray Q T (ix.length + T.length) listed a w
  | [], listed, a, w, hB, h => by
    have hB' : seqL md l.toArray T listed = true := hB
    rw [List.length_nil, Nat.zero_add]
    exact H_of_wpAnyX (seqL_ready hB') fun W hW => wpAnyX_of_seqL T listed a W hB' (h W hW)
  | k :: r, listed, a, w, hB, h => by
    simp only [newL, Bool.and_eq_true, decide_eq_true_eq] at hB
    obtain ⟨⟨⟨hr, ho⟩, _⟩, hB'⟩ := hB
    obtain ⟨o, ho⟩ := Option.isSome_iff_exists.1 ho
    have ho' : l[k]? = some o := by simpa using ho
    rw [getOps_cons ho'] at h
    rw [List.length_cons, show r.length + 1 + T.length = (r.length + T.length) + 1 by omega]
    intro W hW
    refine ⟨fun h1 => (by rw [hr] at h1; cases h1), fun i hi => .inl ?_⟩
    rw [hr] at hi
    have hik : i = k := by simpa using hi
    subst hik
    have h' := h W hW
    unfold ucOp
    simp only [ho]
    split
    · rename_i hwt
      simp only [hwt, if_true] at h'
      exact ucUpon_mono (fun a' W' _ h3 => wpAnyH_new r _ a' W' hB' h3) h'
    · rename_i hwt
      simp only [hwt] at h'
      exact wpAnyH_new r _ _ _ hB' h'

theorem wpAnyH_head {Q : Exit → Act → World → Prop} {l : List Oper} {N T : List Nat} {ns : List Nat} {w : World} (hsel : Region.noSelect l.toArray = true) :
    ∀ (ix : List Nat) (listed : Array Bool) (a : Act), (∀ i ∈ ix, ∀ listed, HeadI md l.toArray T listed → ns.contains i = false → listed.getD i true = false → ∀ t ∈ T, t ∉ Region.ready md l.toArray listed) →
    HeadI md l.toArray T listed → headL md l.toArray N T ix listed = true →
    wpUp ρ P l.toArray w (fun a' W => wpNew ρ P l.toArray (fun a' W => wpTail P l.toArray (Q .normal) (getOps l T) a' W) (getOps l N) a' W) ns ix (getOps l ix) a →
    wpAnyH ρ P md l.toArray Q T (ix.length + (N.length + T.length)) listed a w
  | [], listed, a, _, _, hB, h => by
    have hB' : newL md l.toArray T N listed = true := hB
    rw [List.length_nil, Nat.zero_add]
    exact wpAnyH_new N listed a w hB' (h w (ρ.refl _))
  | k :: r, listed, a, hwait, inv, hB, h => by
    simp only [headL, Bool.and_eq_true, Bool.not_eq_true'] at hB
    obtain ⟨⟨⟨hr, hf⟩, hT⟩, hB'⟩ := hB
    have hr' : k ∈ Region.ready md l.toArray listed := by simpa using hr
    obtain ⟨_, o, ho, _⟩ := mem_ready.1 hr'
    have ho' : l[k]? = some o := by simpa using ho
    rw [getOps_cons ho'] at h
    obtain ⟨v, hy, hyn, hK⟩ := h
    have hkT : k ∉ T := by simpa using hT
    rw [List.length_cons, show r.length + 1 + (N.length + T.length) = (r.length + (N.length + T.length)) + 1 by omega]
    exact wpAnyH_first ho (Region.noSelect_spec hsel) hkT (hwait k (by simp)) _ listed a w inv (Region.free_spec ho hf) hr' hy hyn
      (wpAnyH_head hsel r _ _ (fun i hi => hwait i (List.mem_cons_of_mem _ hi)) (inv.set hr' hkT) hB' hK)

theorem anyX_of_up {Q : Exit → Act → World → Prop} {a : Act} {w : World} {l : List Oper} (ns D N : List Nat) (t : Nat) (T : List Nat) (hB : upB .any l.toArray ns D N t T = true)
    (h : wpUp ρ P l.toArray w.drew (fun a' W => wpNew ρ P l.toArray (fun a' W => wpTail P l.toArray (Q .normal) (getOps l (t :: T)) a' W) (getOps l N) a' W) ns D (getOps l D) a) : wpAnyX P .any l.toArray Q l.toArray.size (Array.replicate l.toArray.size false) a w.drew := by
  simp only [upB, Bool.and_eq_true, beq_iff_eq] at hB
  obtain ⟨⟨⟨⟨⟨hsel, hlen⟩, hc⟩, hs⟩, hlt⟩, hB⟩ := hB
  have inv0 : HeadI .any l.toArray (t :: T) (Array.replicate l.toArray.size false) :=
    ⟨by simp, fun j oj _ hl => (by rw [getD_replicate_false] at hl; cases hl), fun u hu => by
      rcases Nat.lt_or_ge u l.toArray.size with h1 | h1
      · exact getD_in (by simpa using h1) (getD_replicate_false _ _)
      · exfalso
        have hno : ∀ (T : List Nat) (listed : Array Bool), seqL .any l.toArray T listed = true → ∀ x ∈ T, x < l.toArray.size := by
          intro T
          induction T with
          | nil => intro _ _ x hx; cases hx
          | cons k r ih =>
            intro listed hB x hx
            simp only [seqL, Bool.and_eq_true, decide_eq_true_eq] at hB
            rcases List.mem_cons.1 hx with rfl | hx'
            · obtain ⟨o, ho⟩ := Option.isSome_iff_exists.1 hB.1.2
              exact (Array.getElem?_eq_some_iff.1 ho).1
            · exact ih _ hB.2 x hx'
        have hnew : ∀ (N : List Nat) (listed : Array Bool), newL .any l.toArray (t :: T) N listed = true → ∃ listed', seqL .any l.toArray (t :: T) listed' = true := by
          intro N
          induction N with
          | nil => intro listed h; exact ⟨listed, h⟩
          | cons k r ih => intro listed h; simp only [newL, Bool.and_eq_true] at h; exact ih _ h.2
        have hhead : ∀ (D : List Nat) (listed : Array Bool), headL .any l.toArray N (t :: T) D listed = true → ∃ listed', seqL .any l.toArray (t :: T) listed' = true := by
          intro D
          induction D with
          | nil => intro listed h; exact hnew N listed h
          | cons k r ih => intro listed h; simp only [headL, Bool.and_eq_true] at h; exact ih _ h.2
        obtain ⟨listed', h2⟩ := hhead D _ hB
        have := hno _ _ h2 u hu
        omega⟩
  have H := wpAnyH_head (md := .any) (Q := Q) (ns := ns) hsel D _ a
    (fun i hi listed inv hns hun u hu => sink_waits hc inv (D ++ N) hs (fun j hj => by have := List.all_eq_true.1 hlt j hj; simpa using this) i (List.mem_append_left _ hi) hns hun u hu) inv0 hB h
  have := wpAnyX_of_H _ _ _ _ H
  rw [show l.toArray.size = D.length + (N.length + (t :: T).length) by rw [← hlen]; simp]
  rw [show l.toArray.size = D.length + (N.length + (t :: T).length) by rw [← hlen]; simp] at this
  exact this


/-- The wide fence, in a round or not. -/
def wideR (ro : Option Nat) : Fence := { Fence.wide with round := ro }
theorem callsIn_R {ro : Option Nat} {n : Nat} {f : FuncId} {args : Array Value} {w : World} {R : Ending → World → Prop} (h : Calls P f args w R) : CallsIn (wideR ro) n P f args w R := (callsIn_wide (n := n)).2 h
theorem rowsIn_R {ro : Option Nat} {n : Nat} {row : String} {args : Array Value} {w : World} {R : Value → World → Prop} (h : Rows P row args w R) : RowsIn (wideR ro) n P row args w R :=
  fun c cs _ => let ⟨v, w', r, s⟩ := h c cs; ⟨v, w', r, (stepsIn_wide (P := P)).2 s⟩

theorem wpOpIn_of_ucOp {ro : Option Nat} {n : Nat} {Q : Exit → Act → World → Prop} {i : Nat} {K K' : Act → World → Prop} {a : Act} {w : World} (h : ∀ a w, K a w → K' a w) (hh : ucOp anyPre P ops i K a w) : wpOpIn (wideR ro) n P ops Q i K' a w := by
  unfold ucOp at hh
  unfold wpOpIn
  split
  · rename_i ho; simp only [ho] at hh; exact h _ _ hh
  · rename_i o ho
    simp only [ho] at hh
    split
    · rename_i hw
      simp only [hw, if_true] at hh
      have hnd : ∀ c, o.op ≠ .defer c := fun c hc => by
        generalize hr : (execOp a.eval o).run P w = r at hh
        have : execOp a.eval o = (do let d ← resolve a.eval c o.type; pure (.defer d)) := by
          obtain ⟨dst, op, ty, pos, aft, gd⟩ := o
          simp only at hc
          subst hc
          rfl
        rw [this, Sem.run_bind] at hr
        cases hq : (resolve a.eval c o.type).run P w with
        | ok d w' => rw [hq] at hr; simp [Result.andThen] at hr; subst hr; simp only [ucUpon] at hh
        | halt x w' => rw [hq] at hr; simp [Result.andThen] at hr; subst hr; simp only [ucUpon] at hh
      refine ⟨fun _ _ => trivial, ?_⟩
      rw [Oper.semAt_eq _ _ _ hnd]
      generalize (execOp a.eval o).run P w = r at *
      cases r with
      | ok x w' =>
        cases x <;> simp only [ucUpon] at hh <;> simp only [Oper.uponIn]
        case value u => exact h _ _ hh.2
        case skip => exact h _ _ hh.2
        case enter f args => exact ⟨fun e => by simp [wideR, Fence.wide] at e, callsIn_R (hh.mono fun e w'' ⟨u, he, _, hk⟩ => by subst he; exact h _ _ hk)⟩
        case row row args => exact ⟨fun e => by simp [wideR, Fence.wide] at e, rowsIn_R (hh.mono fun u w'' ⟨_, hk⟩ => h _ _ hk)⟩
      | halt x w' => simp only [ucUpon] at hh
    · rename_i hw; simp only [hw] at hh; exact ⟨fun _ _ => trivial, h _ _ hh⟩
theorem wpAnyIn_of_X {ro : Option Nat} {n : Nat} {Q : Exit → Act → World → Prop} : ∀ (f : Nat) (listed : Array Bool) (a : Act) (w : World), wpAnyX P md ops Q f listed a w → wpAnyIn (wideR ro) n P md ops Q f listed a w
  | 0, _, _, _, h => h
  | f + 1, _, _, _, h => ⟨h.1, fun i hi => wpOpIn_of_ucOp (fun a' w' h' => wpAnyIn_of_X f _ a' w' h') (h.2 i hi)⟩

/-- THE LAW inside the wide fence. -/
theorem region_inL {ro : Option Nat} {n id : Nat} {Q : Exit → Act → World → Prop} {a : Act} {w : World} {l : List Oper} (ns D N : List Nat) (t : Nat) (T : List Nat) (hm : P.follows .mixedOrders = true) (hB : upB .any l.toArray ns D N t T = true)
    (h : wpUp upPre P l.toArray w.drew (fun a' W => wpNew upPre P l.toArray (fun a' W => wpTail P l.toArray (Q .normal) (getOps l (t :: T)) a' W) (getOps l N) a' W) ns D (getOps l D) a) : (Code.region id l.toArray true).wpIn (wideR ro) n P Q a w :=
  wpIn_region_any hm (wpAnyIn_of_X _ _ _ _ (anyX_of_up ns D N t T hB h))
end
section steps
variable {P : Program} {ops : Array Oper} {w : World} {Q : Act → World → Prop} {a : Act} {o : Oper} {rest : List Oper}
theorem wpTail_nil (h : Q a w) : wpTail P ops Q [] a w := h
theorem wpTail_step (hg : o.guard = none) (h : ∀ K : Act → World → Prop, (∀ a W, wpTail P ops Q rest a W → K a W) → ucUpon anyPre P o a w K ((execOp a.eval o).run P w)) : wpTail P ops Q (o :: rest) a w := by
  unfold wpTail
  rw [if_pos (by simp [Region.wanted, hg])]
  exact h _ fun _ _ h => h
theorem tUpon_value {W W' : World} {u : Value} {K : Act → World → Prop} : ucUpon anyPre P o a W K (.ok (.value u) W') = K (a.put o.dst u) W' := by simp [ucUpon, anyPre]
theorem tUpon_skip {W W' : World} {K : Act → World → Prop} : ucUpon anyPre P o a W K (.ok .skip W') = K (a.put o.dst undef) W' := by simp [ucUpon, anyPre]
theorem tUpon_enter {W W' : World} {f : FuncId} {args : Array Value} {K : Act → World → Prop} : ucUpon anyPre P o a W K (.ok (.enter f args) W') = Calls P f args W' (fun e W'' => ∃ u, e = .returned u ∧ K (a.put o.dst u) W'') := by simp [ucUpon, anyPre]
end steps
end Go.Proofs.YtalmjdlcogdpmaaGreatDoor

namespace Go.Proofs.YtalmjdlcogdpmaaGreatDoor
open Go Go.RowKit
section
variable {P : Program}
/-- append to nil. -/
theorem wpNew_append {ops : Array Oper} {rest : List Oper} {o : Oper} {a : Act} {Q : Act → World → Prop} {w : World} (hgd : o.guard = none) (s x : Operand) (t : TypeId)
    (ho : o.op = .call { callee := .builtin .append, args := #[s, x], argTypes := #[t, t] })
    (e : TypeId) (i : TypeInfo) (z : Value) (size bytes : Nat) (ht : P.underlying t = some (.slice e)) (hi : P.info? e = some i) (hz : i.zero = some z)
    (hsize : i.size = size) (hby : i.bytes = bytes) (hzs : z.cells.size = size) (hsz : 0 < size)
    (hs : a.eval s = .slice none 0 0)
    (xv : Value) (m : Nat) (news : List Value) (hx : a.eval x = xv) (hl : news.length = m * size) (hnews : SrcR w xv m news) (h1 : ∀ u ∈ news, u.oneCell' = true)
    (h63 : m ≤ maxLen) (hbytes : m * bytes ≤ 140737488355328)
    (h : ∀ v' W', Up w W' → OwnR W' e size v' m news → (∀ k, sameBlock v' k → w.heap.size ≤ k) → wpNew upPre P ops Q rest (a.put o.dst v') W') : wpNew upPre P ops Q (o :: rest) a w := by
  refine wpNew_step hgd fun W hW K hK => ?_
  obtain ⟨v', w', hr, h2, h3, h4⟩ := run_append_chg (P := P) t o.type e i z size bytes ht hi hz hsize hby hzs hsz (.slice none 0 0) 0 [] (OwnR.nil W e size) xv m news hl (hnews.up hW) h1 (by simpa using h63) (by simpa using hbytes)
  rw [Nat.zero_add, List.nil_append] at h2
  have h5 : Up W w' := h3.up_nil rfl
  have : (execOp a.eval o).run P W = .ok (.value v') w' := by
    unfold execOp
    simp only [ho, resolve, invoke, builtin, Sem.run_bind, Sem.run_pure, Result.andThen_ok, List.map_toArray, List.map_cons, List.map_nil, hs, hx, hr]
  rw [this, ucUpon_value]
  refine ⟨h5, hK _ _ (h v' w' (hW.trans h5) h2 fun k hk => ?_)⟩
  rcases h4 k hk with h' | h'
  · simp [sameBlock, Value.ownBlock] at h'
  · exact Nat.le_trans hW.1.size h'

/-- append in the tail, inside the fence. -/
theorem wpTail_append {ops : Array Oper} {rest : List Oper} {o : Oper} {a : Act} {Q : Act → World → Prop} {w : World} (hgd : o.guard = none) (s x : Operand) (t : TypeId)
    (ho : o.op = .call { callee := .builtin .append, args := #[s, x], argTypes := #[t, t] })
    (e : TypeId) (i : TypeInfo) (z : Value) (size bytes : Nat) (ht : P.underlying t = some (.slice e)) (hi : P.info? e = some i) (hz : i.zero = some z)
    (hsize : i.size = size) (hby : i.bytes = bytes) (hzs : z.cells.size = size) (hsz : 0 < size)
    (v : Value) (n : Nat) (xs : List Value) (hs : a.eval s = v) (hown : OwnR w e size v n xs)
    (xv : Value) (m : Nat) (news : List Value) (hx : a.eval x = xv) (hl : news.length = m * size) (hnews : SrcR w xv m news) (h1 : ∀ u ∈ news, u.oneCell' = true)
    (h63 : n + m ≤ maxLen) (hbytes : (n + m) * bytes ≤ 140737488355328)
    (h : ∀ v' w', OwnR w' e size v' (n + m) (xs ++ news) → Chg (sameBlock v) w w' → (∀ k, sameBlock v' k → sameBlock v k ∨ w.heap.size ≤ k) → wpTail P ops Q rest (a.put o.dst v') w') : wpTail P ops Q (o :: rest) a w := by
  refine wpTail_step hgd fun K hK => ?_
  obtain ⟨v', w', hr, h2, h3, h4⟩ := run_append_chg (P := P) t o.type e i z size bytes ht hi hz hsize hby hzs hsz v n xs hown xv m news hl hnews h1 h63 hbytes
  have : (execOp a.eval o).run P w = .ok (.value v') w' := by
    unfold execOp
    simp only [ho, resolve, invoke, builtin, Sem.run_bind, Sem.run_pure, Result.andThen_ok, List.map_toArray, List.map_cons, List.map_nil, hs, hx, hr]
  rw [this, tUpon_value]
  exact hK _ _ (h v' w' h2 h3 h4)
end
end Go.Proofs.YtalmjdlcogdpmaaGreatDoor

namespace Go.Proofs.YtalmjdlcogdpmaaGreatDoor
open Go Go.RowKit
section
variable {P : Program} {c : Code} {Q : Exit → Act → World → Prop} {a : Act} {w : World} {A B C D : List Value} {tA tB tC tD : TypeId}
theorem wp_alloc1 (h : ∀ W, Up w W → W.heap.size = w.heap.size + 1 → Blk W w.heap.size A → c.wp P Q a W) : c.wp P Q a (w.alloc (.cells A.toArray tA)) :=
  h _ (alloc_up _ _ _) (World.size_alloc _ _) (Blk.alloc _ _ _)
theorem wp_alloc2 (h : ∀ W, Up w W → W.heap.size = w.heap.size + 2 → Blk W w.heap.size A → Blk W (w.heap.size + 1) B → c.wp P Q a W) : c.wp P Q a ((w.alloc (.cells A.toArray tA)).alloc (.cells B.toArray tB)) :=
  h _ ((alloc_up _ _ _).trans (alloc_up _ _ _)) (by rw [World.size_alloc, World.size_alloc]) ((Blk.alloc _ _ _).up (alloc_up _ _ _)) (by have := Blk.alloc (w.alloc (.cells A.toArray tA)) B tB; rwa [World.size_alloc] at this)
theorem wp_alloc3 (h : ∀ W, Up w W → W.heap.size = w.heap.size + 3 → Blk W w.heap.size A → Blk W (w.heap.size + 1) B → Blk W (w.heap.size + 1 + 1) C → c.wp P Q a W) : c.wp P Q a (((w.alloc (.cells A.toArray tA)).alloc (.cells B.toArray tB)).alloc (.cells C.toArray tC)) := by
  refine wp_alloc2 (w := w.alloc (.cells A.toArray tA)) fun W hU hs hB hC => ?_
  rw [World.size_alloc] at hs hB hC
  exact h W ((alloc_up _ _ _).trans hU) (by omega) ((Blk.alloc _ _ _).up hU) hB hC
theorem wp_alloc4 (h : ∀ W, Up w W → W.heap.size = w.heap.size + 4 → Blk W w.heap.size A → Blk W (w.heap.size + 1) B → Blk W (w.heap.size + 1 + 1) C → Blk W (w.heap.size + 1 + 1 + 1) D → c.wp P Q a W) : c.wp P Q a ((((w.alloc (.cells A.toArray tA)).alloc (.cells B.toArray tB)).alloc (.cells C.toArray tC)).alloc (.cells D.toArray tD)) := by
  refine wp_alloc3 (w := w.alloc (.cells A.toArray tA)) fun W hU hs hB hC hD => ?_
  rw [World.size_alloc] at hs hB hC hD
  exact h W ((alloc_up _ _ _).trans hU) (by omega) ((Blk.alloc _ _ _).up hU) hB hC hD
end
/-- A block may be written over. -/
theorem Blk.there {W : World} {b : Nat} {cs : List Value} (h : Blk W b cs) (hf : ∀ j, W.frozen? ⟨b, j, none⟩ = false) {n : Nat} (hn : n ≤ cs.length) : W.there b 0 n :=
  fun j hj => ⟨by rw [Nat.zero_add, h.get j (by omega)]; rfl, hf _⟩
theorem Blk.thereAt {W : World} {b : Nat} {cs : List Value} (h : Blk W b cs) (hf : ∀ j, W.frozen? ⟨b, j, none⟩ = false) {o n : Nat} (hn : o + n ≤ cs.length) : W.there b o n :=
  fun j hj => ⟨by rw [h.get (o + j) (by omega)]; rfl, hf _⟩
theorem wpList_build {P : Program} {ops : Array Oper} {rest : List Oper} {o : Oper} {a : Act} {w : World} {Q : Exit → Act → World → Prop} {v : Value} (hg : o.guard = none)
    (hr : (execOp a.eval o).run P w = .ok (.value v) w) (h : wpList P ops Q rest (a.put o.dst v) w) : wpList P ops Q (o :: rest) a w :=
  wpList_plain hg fun K hK => by unfold Oper.wp; rw [hr]; exact hK _ _ h
theorem Blk.range {W : World} {b : Nat} {cs : List Value} (h : Blk W b cs) : W.rangeAt b 0 cs := fun j v hj => by rw [Nat.zero_add]; exact h.at hj
theorem BlkAt.range {W : World} {b o : Nat} {cs : List Value} (h : BlkAt W b o cs) : W.rangeAt b o cs := fun j v hj => by
  obtain ⟨hlt, hv⟩ := List.getElem?_eq_some_iff.1 hj
  rw [h.get j hlt]
  simp [hlt, hv]
section
variable {P : Program} {fn : Func} {W : World}
theorem results_blk {p : Tmp} {ty : TypeId} (h : fn.results = #[.cell p ty]) {tmps : Array Value} {b : Nat} {cs : List Value} {d : TypeDesc}
    (hp : tmps.getD p undef = .pointer (some ⟨b, 0, none⟩)) (hc : Blk W b cs) (hu : P.underlying ty = some d) (hd : d.isRow = true) (hi : (P.info? ty).map (·.size) = some cs.length) :
    (results fn tmps).run P W = .ok (.agg cs.toArray) W := by
  have hp' : tmps[p]?.getD undef = .pointer (some ⟨b, 0, none⟩) := by simpa using hp
  simp [results, h, hp', asAddr, run_loadVar_mid W b 0 ty cs d hc.range hu hd hi]
theorem results_blk_tmp {p u : Tmp} {ty : TypeId} (h : fn.results = #[.cell p ty, .tmp u]) {tmps : Array Value} {b : Nat} {cs : List Value} {d : TypeDesc}
    (hp : tmps.getD p undef = .pointer (some ⟨b, 0, none⟩)) (hc : Blk W b cs) (hu : P.underlying ty = some d) (hd : d.isRow = true) (hi : (P.info? ty).map (·.size) = some cs.length) :
    (results fn tmps).run P W = .ok (.tuple #[.agg cs.toArray, tmps.getD u undef]) W := by
  have hp' : tmps[p]?.getD undef = .pointer (some ⟨b, 0, none⟩) := by simpa using hp
  rw [results_cell_tmp h]
  simp [hp', asAddr, run_loadVar_mid W b 0 ty cs d hc.range hu hd hi, Result.andThen]
theorem results_blk2 {p q : Tmp} {ty tz : TypeId} (h : fn.results = #[.cell p ty, .cell q tz]) {tmps : Array Value} {b c : Nat} {cs ds : List Value} {d e : TypeDesc}
    (hp : tmps.getD p undef = .pointer (some ⟨b, 0, none⟩)) (hc : Blk W b cs) (hu : P.underlying ty = some d) (hd : d.isRow = true) (hi : (P.info? ty).map (·.size) = some cs.length)
    (hq : tmps.getD q undef = .pointer (some ⟨c, 0, none⟩)) (hc2 : Blk W c ds) (hu2 : P.underlying tz = some e) (hd2 : e.isRow = true) (hi2 : (P.info? tz).map (·.size) = some ds.length) :
    (results fn tmps).run P W = .ok (.tuple #[.agg cs.toArray, .agg ds.toArray]) W := by
  have hp' : tmps[p]?.getD undef = .pointer (some ⟨b, 0, none⟩) := by simpa using hp
  have hq' : tmps[q]?.getD undef = .pointer (some ⟨c, 0, none⟩) := by simpa using hq
  simp [results, h, hp', hq', asAddr, run_loadVar_mid W b 0 ty cs d hc.range hu hd hi, run_loadVar_mid W c 0 tz ds e hc2.range hu2 hd2 hi2]
end
theorem bodyPost_def {P : Program} {fn : Func} {R : Ending → World → Prop} {a : Act} {W : World} {v : Value} (hd : a.defers = []) (h : (results fn a.tmps).run P W = .ok v W) (hR : R (.returned v) W) : bodyPost P fn R .ret a W := bodyPost_ret h hd hR
end Go.Proofs.YtalmjdlcogdpmaaGreatDoor
