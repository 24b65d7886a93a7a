/- Contracts and plain laws for the statement of this claim; no condition. Here: 'Up w w'': w' is w with new memory behind it, and nothing that was there has turned: what a call of a pure function leaves. Contracts of cmp.Compare, cmp.Or and of package event's comparisons: what each answers, in plain integers; each makes at most new memory. The order of messages, and lists that are sorted by it: plain. Contracts of vtime.Valid, vtime.Add, of the lanes' tests, of vm.quotient and vm.truth, and of event.Check. Contracts of package code's tests of a program, as far as a handler's run asks them. -/
import Derived.WalkKit
import Derived.WalkSpells
import Derived.WalkLawsBesides
import Derived.Test.YtalmjdlcogdpmaaGreatDoorRows
import Derived.Deep.RegionHeld3
import Derived.Lib.Hide
import Derived.BigQuiet
import Derived.Deep.QuietTactic
set_option linter.unusedVariables false
set_option linter.unusedSimpArgs false

namespace Go.Proofs.YtalmjdlcogdpmaaGreatDoor
open Go.RowKit

structure Up (w w' : World) : Prop where
  below : Below w.heap.size w w'
  marks : ∀ a, w'.frozen? a = w.frozen? a

theorem Up.refl (w : World) : Up w w := ⟨Below.refl _ _, fun _ => rfl⟩
theorem Up.alloc {a w : World} (h : Up a w) (c : Array Value) (t : TypeId) : Up a (w.alloc (.cells c t)) :=
  ⟨h.1.alloc h.1.size _, fun x => (frozen?_alloc_cells _ _ _ x).trans (h.2 x)⟩
theorem Up.drew {a w : World} (h : Up a w) : Up a w.drew := ⟨h.1.drew, h.2⟩
theorem Up.setCell {a w : World} (h : Up a w) {p : Addr} (hp : a.heap.size ≤ p.block) (v : Value) : Up a (w.setCell p v) :=
  ⟨h.1.setCell hp v, fun x => (World.frozen?_setCell _ _ _ _).trans (h.2 x)⟩
theorem Up.trans {a b c : World} (h : Up a b) (k : Up b c) : Up a c :=
  ⟨h.1.trans (k.1.mono h.1.size), fun x => (k.2 x).trans (h.2 x)⟩
theorem Up.grown {w w' : World} (h : Up w w') : Grown w w' := ⟨h.1.frame _, h.2, h.1.size⟩
/-- What the walk wants of a callee's world: old cells, all marks, the size. -/
theorem Up.facts {W w1 : World} (h : Up W w1) : (∀ b o, b < W.heap.size → w1.cell? ⟨b, o, none⟩ = W.cell? ⟨b, o, none⟩) ∧ (∀ a, w1.frozen? a = W.frozen? a) ∧ W.heap.size ≤ w1.heap.size :=
  ⟨fun b o hb => h.1.cell (p := ⟨b, o, none⟩) hb, h.2, h.1.size⟩
theorem frozen_new (w : World) (a : Addr) (h : w.heap.size ≤ a.block) : w.frozen? a = false := by
  simp [World.frozen?, h]
theorem alloc_up (W : World) (c : Array Value) (t : TypeId) : Up W (W.alloc (.cells c t)) := (Up.refl W).alloc c t
theorem cell_up {W W' : World} (hu : Up W W') {a : Addr} {v : Value} (h : W.cell? a = some v) : W'.cell? a = some v :=
  (hu.1.cell (World.block_lt_of_cell? W a h)).trans h
theorem cell_off {W : World} {b i j : Nat} {x : Value} (h : i ≠ j) : (W.setCell ⟨b, i, none⟩ x).cell? ⟨b, j, none⟩ = W.cell? ⟨b, j, none⟩ :=
  World.cell?_setCell_other _ _ _ _ fun e => h (by injection e)
theorem cell_other {W : World} {p a : Addr} {x : Value} (h : p.block ≠ a.block) : (W.setCell p x).cell? a = W.cell? a :=
  World.cell?_setCell_other _ _ _ _ fun e => h (by rw [e])
theorem ret_int {k : IntKind} {a b : Int} (h : a = b) : Ending.returned (.int k a) = .returned (.int k b) := by rw [h]
theorem ret_bool {a b : Bool} (h : a = b) : Ending.returned (.bool a) = .returned (.bool b) := by rw [h]
theorem alloc_up_d (W : World) (c : Array Value) (t : TypeId) : Up W.drew (W.alloc (.cells c t)).drew := alloc_up W.drew c t
theorem up_drew {w : World} : Up w w.drew := (Up.refl w).drew
theorem up_drewN {w : World} (n : Nat) : Up w (w.drewN n) := ⟨below_drewN (Below.refl _ _) n, fun _ => rfl⟩
/-! ### What go_region_held3 holds: 'only new memory', and n cells: kept through whatever only makes memory. -/
theorem keep1 {w W W' : World} {p0 : Addr} {v0 : Value} (hu : Up W W') (h : Up w W ∧ W.cell? p0 = some v0) : Up w W' ∧ W'.cell? p0 = some v0 := by
  obtain ⟨h, h0⟩ := h
  exact ⟨h.trans hu, cell_up hu h0⟩
theorem keep2 {w W W' : World} {p0 p1 : Addr} {v0 v1 : Value} (hu : Up W W') (h : Up w W ∧ W.cell? p0 = some v0 ∧ W.cell? p1 = some v1) : Up w W' ∧ W'.cell? p0 = some v0 ∧ W'.cell? p1 = some v1 := by
  obtain ⟨h, h0, h1⟩ := h
  exact ⟨h.trans hu, cell_up hu h0, cell_up hu h1⟩
theorem keep3 {w W W' : World} {p0 p1 p2 : Addr} {v0 v1 v2 : Value} (hu : Up W W') (h : Up w W ∧ W.cell? p0 = some v0 ∧ W.cell? p1 = some v1 ∧ W.cell? p2 = some v2) : Up w W' ∧ W'.cell? p0 = some v0 ∧ W'.cell? p1 = some v1 ∧ W'.cell? p2 = some v2 := by
  obtain ⟨h, h0, h1, h2⟩ := h
  exact ⟨h.trans hu, cell_up hu h0, cell_up hu h1, cell_up hu h2⟩
theorem keep4 {w W W' : World} {p0 p1 p2 p3 : Addr} {v0 v1 v2 v3 : Value} (hu : Up W W') (h : Up w W ∧ W.cell? p0 = some v0 ∧ W.cell? p1 = some v1 ∧ W.cell? p2 = some v2 ∧ W.cell? p3 = some v3) : Up w W' ∧ W'.cell? p0 = some v0 ∧ W'.cell? p1 = some v1 ∧ W'.cell? p2 = some v2 ∧ W'.cell? p3 = some v3 := by
  obtain ⟨h, h0, h1, h2, h3⟩ := h
  exact ⟨h.trans hu, cell_up hu h0, cell_up hu h1, cell_up hu h2, cell_up hu h3⟩
theorem keep5 {w W W' : World} {p0 p1 p2 p3 p4 : Addr} {v0 v1 v2 v3 v4 : Value} (hu : Up W W') (h : Up w W ∧ W.cell? p0 = some v0 ∧ W.cell? p1 = some v1 ∧ W.cell? p2 = some v2 ∧ W.cell? p3 = some v3 ∧ W.cell? p4 = some v4) : Up w W' ∧ W'.cell? p0 = some v0 ∧ W'.cell? p1 = some v1 ∧ W'.cell? p2 = some v2 ∧ W'.cell? p3 = some v3 ∧ W'.cell? p4 = some v4 := by
  obtain ⟨h, h0, h1, h2, h3, h4⟩ := h
  exact ⟨h.trans hu, cell_up hu h0, cell_up hu h1, cell_up hu h2, cell_up hu h3, cell_up hu h4⟩
theorem keep6 {w W W' : World} {p0 p1 p2 p3 p4 p5 : Addr} {v0 v1 v2 v3 v4 v5 : Value} (hu : Up W W') (h : Up w W ∧ W.cell? p0 = some v0 ∧ W.cell? p1 = some v1 ∧ W.cell? p2 = some v2 ∧ W.cell? p3 = some v3 ∧ W.cell? p4 = some v4 ∧ W.cell? p5 = some v5) : Up w W' ∧ W'.cell? p0 = some v0 ∧ W'.cell? p1 = some v1 ∧ W'.cell? p2 = some v2 ∧ W'.cell? p3 = some v3 ∧ W'.cell? p4 = some v4 ∧ W'.cell? p5 = some v5 := by
  obtain ⟨h, h0, h1, h2, h3, h4, h5⟩ := h
  exact ⟨h.trans hu, cell_up hu h0, cell_up hu h1, cell_up hu h2, cell_up hu h3, cell_up hu h4, cell_up hu h5⟩
theorem keep7 {w W W' : World} {p0 p1 p2 p3 p4 p5 p6 : Addr} {v0 v1 v2 v3 v4 v5 v6 : Value} (hu : Up W W') (h : Up w W ∧ W.cell? p0 = some v0 ∧ W.cell? p1 = some v1 ∧ W.cell? p2 = some v2 ∧ W.cell? p3 = some v3 ∧ W.cell? p4 = some v4 ∧ W.cell? p5 = some v5 ∧ W.cell? p6 = some v6) : Up w W' ∧ W'.cell? p0 = some v0 ∧ W'.cell? p1 = some v1 ∧ W'.cell? p2 = some v2 ∧ W'.cell? p3 = some v3 ∧ W'.cell? p4 = some v4 ∧ W'.cell? p5 = some v5 ∧ W'.cell? p6 = some v6 := by
  obtain ⟨h, h0, h1, h2, h3, h4, h5, h6⟩ := h
  exact ⟨h.trans hu, cell_up hu h0, cell_up hu h1, cell_up hu h2, cell_up hu h3, cell_up hu h4, cell_up hu h5, cell_up hu h6⟩
theorem keep8 {w W W' : World} {p0 p1 p2 p3 p4 p5 p6 p7 : Addr} {v0 v1 v2 v3 v4 v5 v6 v7 : Value} (hu : Up W W') (h : Up w W ∧ W.cell? p0 = some v0 ∧ W.cell? p1 = some v1 ∧ W.cell? p2 = some v2 ∧ W.cell? p3 = some v3 ∧ W.cell? p4 = some v4 ∧ W.cell? p5 = some v5 ∧ W.cell? p6 = some v6 ∧ W.cell? p7 = some v7) : Up w W' ∧ W'.cell? p0 = some v0 ∧ W'.cell? p1 = some v1 ∧ W'.cell? p2 = some v2 ∧ W'.cell? p3 = some v3 ∧ W'.cell? p4 = some v4 ∧ W'.cell? p5 = some v5 ∧ W'.cell? p6 = some v6 ∧ W'.cell? p7 = some v7 := by
  obtain ⟨h, h0, h1, h2, h3, h4, h5, h6, h7⟩ := h
  exact ⟨h.trans hu, cell_up hu h0, cell_up hu h1, cell_up hu h2, cell_up hu h3, cell_up hu h4, cell_up hu h5, cell_up hu h6, cell_up hu h7⟩
theorem keep9 {w W W' : World} {p0 p1 p2 p3 p4 p5 p6 p7 p8 : Addr} {v0 v1 v2 v3 v4 v5 v6 v7 v8 : Value} (hu : Up W W') (h : Up w W ∧ W.cell? p0 = some v0 ∧ W.cell? p1 = some v1 ∧ W.cell? p2 = some v2 ∧ W.cell? p3 = some v3 ∧ W.cell? p4 = some v4 ∧ W.cell? p5 = some v5 ∧ W.cell? p6 = some v6 ∧ W.cell? p7 = some v7 ∧ W.cell? p8 = some v8) : Up w W' ∧ W'.cell? p0 = some v0 ∧ W'.cell? p1 = some v1 ∧ W'.cell? p2 = some v2 ∧ W'.cell? p3 = some v3 ∧ W'.cell? p4 = some v4 ∧ W'.cell? p5 = some v5 ∧ W'.cell? p6 = some v6 ∧ W'.cell? p7 = some v7 ∧ W'.cell? p8 = some v8 := by
  obtain ⟨h, h0, h1, h2, h3, h4, h5, h6, h7, h8⟩ := h
  exact ⟨h.trans hu, cell_up hu h0, cell_up hu h1, cell_up hu h2, cell_up hu h3, cell_up hu h4, cell_up hu h5, cell_up hu h6, cell_up hu h7, cell_up hu h8⟩
theorem keep10 {w W W' : World} {p0 p1 p2 p3 p4 p5 p6 p7 p8 p9 : Addr} {v0 v1 v2 v3 v4 v5 v6 v7 v8 v9 : Value} (hu : Up W W') (h : Up w W ∧ W.cell? p0 = some v0 ∧ W.cell? p1 = some v1 ∧ W.cell? p2 = some v2 ∧ W.cell? p3 = some v3 ∧ W.cell? p4 = some v4 ∧ W.cell? p5 = some v5 ∧ W.cell? p6 = some v6 ∧ W.cell? p7 = some v7 ∧ W.cell? p8 = some v8 ∧ W.cell? p9 = some v9) : Up w W' ∧ W'.cell? p0 = some v0 ∧ W'.cell? p1 = some v1 ∧ W'.cell? p2 = some v2 ∧ W'.cell? p3 = some v3 ∧ W'.cell? p4 = some v4 ∧ W'.cell? p5 = some v5 ∧ W'.cell? p6 = some v6 ∧ W'.cell? p7 = some v7 ∧ W'.cell? p8 = some v8 ∧ W'.cell? p9 = some v9 := by
  obtain ⟨h, h0, h1, h2, h3, h4, h5, h6, h7, h8, h9⟩ := h
  exact ⟨h.trans hu, cell_up hu h0, cell_up hu h1, cell_up hu h2, cell_up hu h3, cell_up hu h4, cell_up hu h5, cell_up hu h6, cell_up hu h7, cell_up hu h8, cell_up hu h9⟩
theorem keep11 {w W W' : World} {p0 p1 p2 p3 p4 p5 p6 p7 p8 p9 p10 : Addr} {v0 v1 v2 v3 v4 v5 v6 v7 v8 v9 v10 : Value} (hu : Up W W') (h : Up w W ∧ W.cell? p0 = some v0 ∧ W.cell? p1 = some v1 ∧ W.cell? p2 = some v2 ∧ W.cell? p3 = some v3 ∧ W.cell? p4 = some v4 ∧ W.cell? p5 = some v5 ∧ W.cell? p6 = some v6 ∧ W.cell? p7 = some v7 ∧ W.cell? p8 = some v8 ∧ W.cell? p9 = some v9 ∧ W.cell? p10 = some v10) : Up w W' ∧ W'.cell? p0 = some v0 ∧ W'.cell? p1 = some v1 ∧ W'.cell? p2 = some v2 ∧ W'.cell? p3 = some v3 ∧ W'.cell? p4 = some v4 ∧ W'.cell? p5 = some v5 ∧ W'.cell? p6 = some v6 ∧ W'.cell? p7 = some v7 ∧ W'.cell? p8 = some v8 ∧ W'.cell? p9 = some v9 ∧ W'.cell? p10 = some v10 := by
  obtain ⟨h, h0, h1, h2, h3, h4, h5, h6, h7, h8, h9, h10⟩ := h
  exact ⟨h.trans hu, cell_up hu h0, cell_up hu h1, cell_up hu h2, cell_up hu h3, cell_up hu h4, cell_up hu h5, cell_up hu h6, cell_up hu h7, cell_up hu h8, cell_up hu h9, cell_up hu h10⟩
theorem keep12 {w W W' : World} {p0 p1 p2 p3 p4 p5 p6 p7 p8 p9 p10 p11 : Addr} {v0 v1 v2 v3 v4 v5 v6 v7 v8 v9 v10 v11 : Value} (hu : Up W W') (h : Up w W ∧ W.cell? p0 = some v0 ∧ W.cell? p1 = some v1 ∧ W.cell? p2 = some v2 ∧ W.cell? p3 = some v3 ∧ W.cell? p4 = some v4 ∧ W.cell? p5 = some v5 ∧ W.cell? p6 = some v6 ∧ W.cell? p7 = some v7 ∧ W.cell? p8 = some v8 ∧ W.cell? p9 = some v9 ∧ W.cell? p10 = some v10 ∧ W.cell? p11 = some v11) : Up w W' ∧ W'.cell? p0 = some v0 ∧ W'.cell? p1 = some v1 ∧ W'.cell? p2 = some v2 ∧ W'.cell? p3 = some v3 ∧ W'.cell? p4 = some v4 ∧ W'.cell? p5 = some v5 ∧ W'.cell? p6 = some v6 ∧ W'.cell? p7 = some v7 ∧ W'.cell? p8 = some v8 ∧ W'.cell? p9 = some v9 ∧ W'.cell? p10 = some v10 ∧ W'.cell? p11 = some v11 := by
  obtain ⟨h, h0, h1, h2, h3, h4, h5, h6, h7, h8, h9, h10, h11⟩ := h
  exact ⟨h.trans hu, cell_up hu h0, cell_up hu h1, cell_up hu h2, cell_up hu h3, cell_up hu h4, cell_up hu h5, cell_up hu h6, cell_up hu h7, cell_up hu h8, cell_up hu h9, cell_up hu h10, cell_up hu h11⟩
theorem keep13 {w W W' : World} {p0 p1 p2 p3 p4 p5 p6 p7 p8 p9 p10 p11 p12 : Addr} {v0 v1 v2 v3 v4 v5 v6 v7 v8 v9 v10 v11 v12 : Value} (hu : Up W W') (h : Up w W ∧ W.cell? p0 = some v0 ∧ W.cell? p1 = some v1 ∧ W.cell? p2 = some v2 ∧ W.cell? p3 = some v3 ∧ W.cell? p4 = some v4 ∧ W.cell? p5 = some v5 ∧ W.cell? p6 = some v6 ∧ W.cell? p7 = some v7 ∧ W.cell? p8 = some v8 ∧ W.cell? p9 = some v9 ∧ W.cell? p10 = some v10 ∧ W.cell? p11 = some v11 ∧ W.cell? p12 = some v12) : Up w W' ∧ W'.cell? p0 = some v0 ∧ W'.cell? p1 = some v1 ∧ W'.cell? p2 = some v2 ∧ W'.cell? p3 = some v3 ∧ W'.cell? p4 = some v4 ∧ W'.cell? p5 = some v5 ∧ W'.cell? p6 = some v6 ∧ W'.cell? p7 = some v7 ∧ W'.cell? p8 = some v8 ∧ W'.cell? p9 = some v9 ∧ W'.cell? p10 = some v10 ∧ W'.cell? p11 = some v11 ∧ W'.cell? p12 = some v12 := by
  obtain ⟨h, h0, h1, h2, h3, h4, h5, h6, h7, h8, h9, h10, h11, h12⟩ := h
  exact ⟨h.trans hu, cell_up hu h0, cell_up hu h1, cell_up hu h2, cell_up hu h3, cell_up hu h4, cell_up hu h5, cell_up hu h6, cell_up hu h7, cell_up hu h8, cell_up hu h9, cell_up hu h10, cell_up hu h11, cell_up hu h12⟩
theorem keep14 {w W W' : World} {p0 p1 p2 p3 p4 p5 p6 p7 p8 p9 p10 p11 p12 p13 : Addr} {v0 v1 v2 v3 v4 v5 v6 v7 v8 v9 v10 v11 v12 v13 : Value} (hu : Up W W') (h : Up w W ∧ W.cell? p0 = some v0 ∧ W.cell? p1 = some v1 ∧ W.cell? p2 = some v2 ∧ W.cell? p3 = some v3 ∧ W.cell? p4 = some v4 ∧ W.cell? p5 = some v5 ∧ W.cell? p6 = some v6 ∧ W.cell? p7 = some v7 ∧ W.cell? p8 = some v8 ∧ W.cell? p9 = some v9 ∧ W.cell? p10 = some v10 ∧ W.cell? p11 = some v11 ∧ W.cell? p12 = some v12 ∧ W.cell? p13 = some v13) : Up w W' ∧ W'.cell? p0 = some v0 ∧ W'.cell? p1 = some v1 ∧ W'.cell? p2 = some v2 ∧ W'.cell? p3 = some v3 ∧ W'.cell? p4 = some v4 ∧ W'.cell? p5 = some v5 ∧ W'.cell? p6 = some v6 ∧ W'.cell? p7 = some v7 ∧ W'.cell? p8 = some v8 ∧ W'.cell? p9 = some v9 ∧ W'.cell? p10 = some v10 ∧ W'.cell? p11 = some v11 ∧ W'.cell? p12 = some v12 ∧ W'.cell? p13 = some v13 := by
  obtain ⟨h, h0, h1, h2, h3, h4, h5, h6, h7, h8, h9, h10, h11, h12, h13⟩ := h
  exact ⟨h.trans hu, cell_up hu h0, cell_up hu h1, cell_up hu h2, cell_up hu h3, cell_up hu h4, cell_up hu h5, cell_up hu h6, cell_up hu h7, cell_up hu h8, cell_up hu h9, cell_up hu h10, cell_up hu h11, cell_up hu h12, cell_up hu h13⟩
theorem keep15 {w W W' : World} {p0 p1 p2 p3 p4 p5 p6 p7 p8 p9 p10 p11 p12 p13 p14 : Addr} {v0 v1 v2 v3 v4 v5 v6 v7 v8 v9 v10 v11 v12 v13 v14 : Value} (hu : Up W W') (h : Up w W ∧ W.cell? p0 = some v0 ∧ W.cell? p1 = some v1 ∧ W.cell? p2 = some v2 ∧ W.cell? p3 = some v3 ∧ W.cell? p4 = some v4 ∧ W.cell? p5 = some v5 ∧ W.cell? p6 = some v6 ∧ W.cell? p7 = some v7 ∧ W.cell? p8 = some v8 ∧ W.cell? p9 = some v9 ∧ W.cell? p10 = some v10 ∧ W.cell? p11 = some v11 ∧ W.cell? p12 = some v12 ∧ W.cell? p13 = some v13 ∧ W.cell? p14 = some v14) : Up w W' ∧ W'.cell? p0 = some v0 ∧ W'.cell? p1 = some v1 ∧ W'.cell? p2 = some v2 ∧ W'.cell? p3 = some v3 ∧ W'.cell? p4 = some v4 ∧ W'.cell? p5 = some v5 ∧ W'.cell? p6 = some v6 ∧ W'.cell? p7 = some v7 ∧ W'.cell? p8 = some v8 ∧ W'.cell? p9 = some v9 ∧ W'.cell? p10 = some v10 ∧ W'.cell? p11 = some v11 ∧ W'.cell? p12 = some v12 ∧ W'.cell? p13 = some v13 ∧ W'.cell? p14 = some v14 := by
  obtain ⟨h, h0, h1, h2, h3, h4, h5, h6, h7, h8, h9, h10, h11, h12, h13, h14⟩ := h
  exact ⟨h.trans hu, cell_up hu h0, cell_up hu h1, cell_up hu h2, cell_up hu h3, cell_up hu h4, cell_up hu h5, cell_up hu h6, cell_up hu h7, cell_up hu h8, cell_up hu h9, cell_up hu h10, cell_up hu h11, cell_up hu h12, cell_up hu h13, cell_up hu h14⟩
theorem keep16 {w W W' : World} {p0 p1 p2 p3 p4 p5 p6 p7 p8 p9 p10 p11 p12 p13 p14 p15 : Addr} {v0 v1 v2 v3 v4 v5 v6 v7 v8 v9 v10 v11 v12 v13 v14 v15 : Value} (hu : Up W W') (h : Up w W ∧ W.cell? p0 = some v0 ∧ W.cell? p1 = some v1 ∧ W.cell? p2 = some v2 ∧ W.cell? p3 = some v3 ∧ W.cell? p4 = some v4 ∧ W.cell? p5 = some v5 ∧ W.cell? p6 = some v6 ∧ W.cell? p7 = some v7 ∧ W.cell? p8 = some v8 ∧ W.cell? p9 = some v9 ∧ W.cell? p10 = some v10 ∧ W.cell? p11 = some v11 ∧ W.cell? p12 = some v12 ∧ W.cell? p13 = some v13 ∧ W.cell? p14 = some v14 ∧ W.cell? p15 = some v15) : Up w W' ∧ W'.cell? p0 = some v0 ∧ W'.cell? p1 = some v1 ∧ W'.cell? p2 = some v2 ∧ W'.cell? p3 = some v3 ∧ W'.cell? p4 = some v4 ∧ W'.cell? p5 = some v5 ∧ W'.cell? p6 = some v6 ∧ W'.cell? p7 = some v7 ∧ W'.cell? p8 = some v8 ∧ W'.cell? p9 = some v9 ∧ W'.cell? p10 = some v10 ∧ W'.cell? p11 = some v11 ∧ W'.cell? p12 = some v12 ∧ W'.cell? p13 = some v13 ∧ W'.cell? p14 = some v14 ∧ W'.cell? p15 = some v15 := by
  obtain ⟨h, h0, h1, h2, h3, h4, h5, h6, h7, h8, h9, h10, h11, h12, h13, h14, h15⟩ := h
  exact ⟨h.trans hu, cell_up hu h0, cell_up hu h1, cell_up hu h2, cell_up hu h3, cell_up hu h4, cell_up hu h5, cell_up hu h6, cell_up hu h7, cell_up hu h8, cell_up hu h9, cell_up hu h10, cell_up hu h11, cell_up hu h12, cell_up hu h13, cell_up hu h14, cell_up hu h15⟩
theorem keep17 {w W W' : World} {p0 p1 p2 p3 p4 p5 p6 p7 p8 p9 p10 p11 p12 p13 p14 p15 p16 : Addr} {v0 v1 v2 v3 v4 v5 v6 v7 v8 v9 v10 v11 v12 v13 v14 v15 v16 : Value} (hu : Up W W') (h : Up w W ∧ W.cell? p0 = some v0 ∧ W.cell? p1 = some v1 ∧ W.cell? p2 = some v2 ∧ W.cell? p3 = some v3 ∧ W.cell? p4 = some v4 ∧ W.cell? p5 = some v5 ∧ W.cell? p6 = some v6 ∧ W.cell? p7 = some v7 ∧ W.cell? p8 = some v8 ∧ W.cell? p9 = some v9 ∧ W.cell? p10 = some v10 ∧ W.cell? p11 = some v11 ∧ W.cell? p12 = some v12 ∧ W.cell? p13 = some v13 ∧ W.cell? p14 = some v14 ∧ W.cell? p15 = some v15 ∧ W.cell? p16 = some v16) : Up w W' ∧ W'.cell? p0 = some v0 ∧ W'.cell? p1 = some v1 ∧ W'.cell? p2 = some v2 ∧ W'.cell? p3 = some v3 ∧ W'.cell? p4 = some v4 ∧ W'.cell? p5 = some v5 ∧ W'.cell? p6 = some v6 ∧ W'.cell? p7 = some v7 ∧ W'.cell? p8 = some v8 ∧ W'.cell? p9 = some v9 ∧ W'.cell? p10 = some v10 ∧ W'.cell? p11 = some v11 ∧ W'.cell? p12 = some v12 ∧ W'.cell? p13 = some v13 ∧ W'.cell? p14 = some v14 ∧ W'.cell? p15 = some v15 ∧ W'.cell? p16 = some v16 := by
  obtain ⟨h, h0, h1, h2, h3, h4, h5, h6, h7, h8, h9, h10, h11, h12, h13, h14, h15, h16⟩ := h
  exact ⟨h.trans hu, cell_up hu h0, cell_up hu h1, cell_up hu h2, cell_up hu h3, cell_up hu h4, cell_up hu h5, cell_up hu h6, cell_up hu h7, cell_up hu h8, cell_up hu h9, cell_up hu h10, cell_up hu h11, cell_up hu h12, cell_up hu h13, cell_up hu h14, cell_up hu h15, cell_up hu h16⟩
theorem keep18 {w W W' : World} {p0 p1 p2 p3 p4 p5 p6 p7 p8 p9 p10 p11 p12 p13 p14 p15 p16 p17 : Addr} {v0 v1 v2 v3 v4 v5 v6 v7 v8 v9 v10 v11 v12 v13 v14 v15 v16 v17 : Value} (hu : Up W W') (h : Up w W ∧ W.cell? p0 = some v0 ∧ W.cell? p1 = some v1 ∧ W.cell? p2 = some v2 ∧ W.cell? p3 = some v3 ∧ W.cell? p4 = some v4 ∧ W.cell? p5 = some v5 ∧ W.cell? p6 = some v6 ∧ W.cell? p7 = some v7 ∧ W.cell? p8 = some v8 ∧ W.cell? p9 = some v9 ∧ W.cell? p10 = some v10 ∧ W.cell? p11 = some v11 ∧ W.cell? p12 = some v12 ∧ W.cell? p13 = some v13 ∧ W.cell? p14 = some v14 ∧ W.cell? p15 = some v15 ∧ W.cell? p16 = some v16 ∧ W.cell? p17 = some v17) : Up w W' ∧ W'.cell? p0 = some v0 ∧ W'.cell? p1 = some v1 ∧ W'.cell? p2 = some v2 ∧ W'.cell? p3 = some v3 ∧ W'.cell? p4 = some v4 ∧ W'.cell? p5 = some v5 ∧ W'.cell? p6 = some v6 ∧ W'.cell? p7 = some v7 ∧ W'.cell? p8 = some v8 ∧ W'.cell? p9 = some v9 ∧ W'.cell? p10 = some v10 ∧ W'.cell? p11 = some v11 ∧ W'.cell? p12 = some v12 ∧ W'.cell? p13 = some v13 ∧ W'.cell? p14 = some v14 ∧ W'.cell? p15 = some v15 ∧ W'.cell? p16 = some v16 ∧ W'.cell? p17 = some v17 := by
  obtain ⟨h, h0, h1, h2, h3, h4, h5, h6, h7, h8, h9, h10, h11, h12, h13, h14, h15, h16, h17⟩ := h
  exact ⟨h.trans hu, cell_up hu h0, cell_up hu h1, cell_up hu h2, cell_up hu h3, cell_up hu h4, cell_up hu h5, cell_up hu h6, cell_up hu h7, cell_up hu h8, cell_up hu h9, cell_up hu h10, cell_up hu h11, cell_up hu h12, cell_up hu h13, cell_up hu h14, cell_up hu h15, cell_up hu h16, cell_up hu h17⟩
theorem keep19 {w W W' : World} {p0 p1 p2 p3 p4 p5 p6 p7 p8 p9 p10 p11 p12 p13 p14 p15 p16 p17 p18 : Addr} {v0 v1 v2 v3 v4 v5 v6 v7 v8 v9 v10 v11 v12 v13 v14 v15 v16 v17 v18 : Value} (hu : Up W W') (h : Up w W ∧ W.cell? p0 = some v0 ∧ W.cell? p1 = some v1 ∧ W.cell? p2 = some v2 ∧ W.cell? p3 = some v3 ∧ W.cell? p4 = some v4 ∧ W.cell? p5 = some v5 ∧ W.cell? p6 = some v6 ∧ W.cell? p7 = some v7 ∧ W.cell? p8 = some v8 ∧ W.cell? p9 = some v9 ∧ W.cell? p10 = some v10 ∧ W.cell? p11 = some v11 ∧ W.cell? p12 = some v12 ∧ W.cell? p13 = some v13 ∧ W.cell? p14 = some v14 ∧ W.cell? p15 = some v15 ∧ W.cell? p16 = some v16 ∧ W.cell? p17 = some v17 ∧ W.cell? p18 = some v18) : Up w W' ∧ W'.cell? p0 = some v0 ∧ W'.cell? p1 = some v1 ∧ W'.cell? p2 = some v2 ∧ W'.cell? p3 = some v3 ∧ W'.cell? p4 = some v4 ∧ W'.cell? p5 = some v5 ∧ W'.cell? p6 = some v6 ∧ W'.cell? p7 = some v7 ∧ W'.cell? p8 = some v8 ∧ W'.cell? p9 = some v9 ∧ W'.cell? p10 = some v10 ∧ W'.cell? p11 = some v11 ∧ W'.cell? p12 = some v12 ∧ W'.cell? p13 = some v13 ∧ W'.cell? p14 = some v14 ∧ W'.cell? p15 = some v15 ∧ W'.cell? p16 = some v16 ∧ W'.cell? p17 = some v17 ∧ W'.cell? p18 = some v18 := by
  obtain ⟨h, h0, h1, h2, h3, h4, h5, h6, h7, h8, h9, h10, h11, h12, h13, h14, h15, h16, h17, h18⟩ := h
  exact ⟨h.trans hu, cell_up hu h0, cell_up hu h1, cell_up hu h2, cell_up hu h3, cell_up hu h4, cell_up hu h5, cell_up hu h6, cell_up hu h7, cell_up hu h8, cell_up hu h9, cell_up hu h10, cell_up hu h11, cell_up hu h12, cell_up hu h13, cell_up hu h14, cell_up hu h15, cell_up hu h16, cell_up hu h17, cell_up hu h18⟩
theorem keep20 {w W W' : World} {p0 p1 p2 p3 p4 p5 p6 p7 p8 p9 p10 p11 p12 p13 p14 p15 p16 p17 p18 p19 : Addr} {v0 v1 v2 v3 v4 v5 v6 v7 v8 v9 v10 v11 v12 v13 v14 v15 v16 v17 v18 v19 : Value} (hu : Up W W') (h : Up w W ∧ W.cell? p0 = some v0 ∧ W.cell? p1 = some v1 ∧ W.cell? p2 = some v2 ∧ W.cell? p3 = some v3 ∧ W.cell? p4 = some v4 ∧ W.cell? p5 = some v5 ∧ W.cell? p6 = some v6 ∧ W.cell? p7 = some v7 ∧ W.cell? p8 = some v8 ∧ W.cell? p9 = some v9 ∧ W.cell? p10 = some v10 ∧ W.cell? p11 = some v11 ∧ W.cell? p12 = some v12 ∧ W.cell? p13 = some v13 ∧ W.cell? p14 = some v14 ∧ W.cell? p15 = some v15 ∧ W.cell? p16 = some v16 ∧ W.cell? p17 = some v17 ∧ W.cell? p18 = some v18 ∧ W.cell? p19 = some v19) : Up w W' ∧ W'.cell? p0 = some v0 ∧ W'.cell? p1 = some v1 ∧ W'.cell? p2 = some v2 ∧ W'.cell? p3 = some v3 ∧ W'.cell? p4 = some v4 ∧ W'.cell? p5 = some v5 ∧ W'.cell? p6 = some v6 ∧ W'.cell? p7 = some v7 ∧ W'.cell? p8 = some v8 ∧ W'.cell? p9 = some v9 ∧ W'.cell? p10 = some v10 ∧ W'.cell? p11 = some v11 ∧ W'.cell? p12 = some v12 ∧ W'.cell? p13 = some v13 ∧ W'.cell? p14 = some v14 ∧ W'.cell? p15 = some v15 ∧ W'.cell? p16 = some v16 ∧ W'.cell? p17 = some v17 ∧ W'.cell? p18 = some v18 ∧ W'.cell? p19 = some v19 := by
  obtain ⟨h, h0, h1, h2, h3, h4, h5, h6, h7, h8, h9, h10, h11, h12, h13, h14, h15, h16, h17, h18, h19⟩ := h
  exact ⟨h.trans hu, cell_up hu h0, cell_up hu h1, cell_up hu h2, cell_up hu h3, cell_up hu h4, cell_up hu h5, cell_up hu h6, cell_up hu h7, cell_up hu h8, cell_up hu h9, cell_up hu h10, cell_up hu h11, cell_up hu h12, cell_up hu h13, cell_up hu h14, cell_up hu h15, cell_up hu h16, cell_up hu h17, cell_up hu h18, cell_up hu h19⟩
theorem keep21 {w W W' : World} {p0 p1 p2 p3 p4 p5 p6 p7 p8 p9 p10 p11 p12 p13 p14 p15 p16 p17 p18 p19 p20 : Addr} {v0 v1 v2 v3 v4 v5 v6 v7 v8 v9 v10 v11 v12 v13 v14 v15 v16 v17 v18 v19 v20 : Value} (hu : Up W W') (h : Up w W ∧ W.cell? p0 = some v0 ∧ W.cell? p1 = some v1 ∧ W.cell? p2 = some v2 ∧ W.cell? p3 = some v3 ∧ W.cell? p4 = some v4 ∧ W.cell? p5 = some v5 ∧ W.cell? p6 = some v6 ∧ W.cell? p7 = some v7 ∧ W.cell? p8 = some v8 ∧ W.cell? p9 = some v9 ∧ W.cell? p10 = some v10 ∧ W.cell? p11 = some v11 ∧ W.cell? p12 = some v12 ∧ W.cell? p13 = some v13 ∧ W.cell? p14 = some v14 ∧ W.cell? p15 = some v15 ∧ W.cell? p16 = some v16 ∧ W.cell? p17 = some v17 ∧ W.cell? p18 = some v18 ∧ W.cell? p19 = some v19 ∧ W.cell? p20 = some v20) : Up w W' ∧ W'.cell? p0 = some v0 ∧ W'.cell? p1 = some v1 ∧ W'.cell? p2 = some v2 ∧ W'.cell? p3 = some v3 ∧ W'.cell? p4 = some v4 ∧ W'.cell? p5 = some v5 ∧ W'.cell? p6 = some v6 ∧ W'.cell? p7 = some v7 ∧ W'.cell? p8 = some v8 ∧ W'.cell? p9 = some v9 ∧ W'.cell? p10 = some v10 ∧ W'.cell? p11 = some v11 ∧ W'.cell? p12 = some v12 ∧ W'.cell? p13 = some v13 ∧ W'.cell? p14 = some v14 ∧ W'.cell? p15 = some v15 ∧ W'.cell? p16 = some v16 ∧ W'.cell? p17 = some v17 ∧ W'.cell? p18 = some v18 ∧ W'.cell? p19 = some v19 ∧ W'.cell? p20 = some v20 := by
  obtain ⟨h, h0, h1, h2, h3, h4, h5, h6, h7, h8, h9, h10, h11, h12, h13, h14, h15, h16, h17, h18, h19, h20⟩ := h
  exact ⟨h.trans hu, cell_up hu h0, cell_up hu h1, cell_up hu h2, cell_up hu h3, cell_up hu h4, cell_up hu h5, cell_up hu h6, cell_up hu h7, cell_up hu h8, cell_up hu h9, cell_up hu h10, cell_up hu h11, cell_up hu h12, cell_up hu h13, cell_up hu h14, cell_up hu h15, cell_up hu h16, cell_up hu h17, cell_up hu h18, cell_up hu h19, cell_up hu h20⟩
theorem keep22 {w W W' : World} {p0 p1 p2 p3 p4 p5 p6 p7 p8 p9 p10 p11 p12 p13 p14 p15 p16 p17 p18 p19 p20 p21 : Addr} {v0 v1 v2 v3 v4 v5 v6 v7 v8 v9 v10 v11 v12 v13 v14 v15 v16 v17 v18 v19 v20 v21 : Value} (hu : Up W W') (h : Up w W ∧ W.cell? p0 = some v0 ∧ W.cell? p1 = some v1 ∧ W.cell? p2 = some v2 ∧ W.cell? p3 = some v3 ∧ W.cell? p4 = some v4 ∧ W.cell? p5 = some v5 ∧ W.cell? p6 = some v6 ∧ W.cell? p7 = some v7 ∧ W.cell? p8 = some v8 ∧ W.cell? p9 = some v9 ∧ W.cell? p10 = some v10 ∧ W.cell? p11 = some v11 ∧ W.cell? p12 = some v12 ∧ W.cell? p13 = some v13 ∧ W.cell? p14 = some v14 ∧ W.cell? p15 = some v15 ∧ W.cell? p16 = some v16 ∧ W.cell? p17 = some v17 ∧ W.cell? p18 = some v18 ∧ W.cell? p19 = some v19 ∧ W.cell? p20 = some v20 ∧ W.cell? p21 = some v21) : Up w W' ∧ W'.cell? p0 = some v0 ∧ W'.cell? p1 = some v1 ∧ W'.cell? p2 = some v2 ∧ W'.cell? p3 = some v3 ∧ W'.cell? p4 = some v4 ∧ W'.cell? p5 = some v5 ∧ W'.cell? p6 = some v6 ∧ W'.cell? p7 = some v7 ∧ W'.cell? p8 = some v8 ∧ W'.cell? p9 = some v9 ∧ W'.cell? p10 = some v10 ∧ W'.cell? p11 = some v11 ∧ W'.cell? p12 = some v12 ∧ W'.cell? p13 = some v13 ∧ W'.cell? p14 = some v14 ∧ W'.cell? p15 = some v15 ∧ W'.cell? p16 = some v16 ∧ W'.cell? p17 = some v17 ∧ W'.cell? p18 = some v18 ∧ W'.cell? p19 = some v19 ∧ W'.cell? p20 = some v20 ∧ W'.cell? p21 = some v21 := by
  obtain ⟨h, h0, h1, h2, h3, h4, h5, h6, h7, h8, h9, h10, h11, h12, h13, h14, h15, h16, h17, h18, h19, h20, h21⟩ := h
  exact ⟨h.trans hu, cell_up hu h0, cell_up hu h1, cell_up hu h2, cell_up hu h3, cell_up hu h4, cell_up hu h5, cell_up hu h6, cell_up hu h7, cell_up hu h8, cell_up hu h9, cell_up hu h10, cell_up hu h11, cell_up hu h12, cell_up hu h13, cell_up hu h14, cell_up hu h15, cell_up hu h16, cell_up hu h17, cell_up hu h18, cell_up hu h19, cell_up hu h20, cell_up hu h21⟩
theorem keep23 {w W W' : World} {p0 p1 p2 p3 p4 p5 p6 p7 p8 p9 p10 p11 p12 p13 p14 p15 p16 p17 p18 p19 p20 p21 p22 : Addr} {v0 v1 v2 v3 v4 v5 v6 v7 v8 v9 v10 v11 v12 v13 v14 v15 v16 v17 v18 v19 v20 v21 v22 : Value} (hu : Up W W') (h : Up w W ∧ W.cell? p0 = some v0 ∧ W.cell? p1 = some v1 ∧ W.cell? p2 = some v2 ∧ W.cell? p3 = some v3 ∧ W.cell? p4 = some v4 ∧ W.cell? p5 = some v5 ∧ W.cell? p6 = some v6 ∧ W.cell? p7 = some v7 ∧ W.cell? p8 = some v8 ∧ W.cell? p9 = some v9 ∧ W.cell? p10 = some v10 ∧ W.cell? p11 = some v11 ∧ W.cell? p12 = some v12 ∧ W.cell? p13 = some v13 ∧ W.cell? p14 = some v14 ∧ W.cell? p15 = some v15 ∧ W.cell? p16 = some v16 ∧ W.cell? p17 = some v17 ∧ W.cell? p18 = some v18 ∧ W.cell? p19 = some v19 ∧ W.cell? p20 = some v20 ∧ W.cell? p21 = some v21 ∧ W.cell? p22 = some v22) : Up w W' ∧ W'.cell? p0 = some v0 ∧ W'.cell? p1 = some v1 ∧ W'.cell? p2 = some v2 ∧ W'.cell? p3 = some v3 ∧ W'.cell? p4 = some v4 ∧ W'.cell? p5 = some v5 ∧ W'.cell? p6 = some v6 ∧ W'.cell? p7 = some v7 ∧ W'.cell? p8 = some v8 ∧ W'.cell? p9 = some v9 ∧ W'.cell? p10 = some v10 ∧ W'.cell? p11 = some v11 ∧ W'.cell? p12 = some v12 ∧ W'.cell? p13 = some v13 ∧ W'.cell? p14 = some v14 ∧ W'.cell? p15 = some v15 ∧ W'.cell? p16 = some v16 ∧ W'.cell? p17 = some v17 ∧ W'.cell? p18 = some v18 ∧ W'.cell? p19 = some v19 ∧ W'.cell? p20 = some v20 ∧ W'.cell? p21 = some v21 ∧ W'.cell? p22 = some v22 := by
  obtain ⟨h, h0, h1, h2, h3, h4, h5, h6, h7, h8, h9, h10, h11, h12, h13, h14, h15, h16, h17, h18, h19, h20, h21, h22⟩ := h
  exact ⟨h.trans hu, cell_up hu h0, cell_up hu h1, cell_up hu h2, cell_up hu h3, cell_up hu h4, cell_up hu h5, cell_up hu h6, cell_up hu h7, cell_up hu h8, cell_up hu h9, cell_up hu h10, cell_up hu h11, cell_up hu h12, cell_up hu h13, cell_up hu h14, cell_up hu h15, cell_up hu h16, cell_up hu h17, cell_up hu h18, cell_up hu h19, cell_up hu h20, cell_up hu h21, cell_up hu h22⟩
theorem keep24 {w W W' : World} {p0 p1 p2 p3 p4 p5 p6 p7 p8 p9 p10 p11 p12 p13 p14 p15 p16 p17 p18 p19 p20 p21 p22 p23 : Addr} {v0 v1 v2 v3 v4 v5 v6 v7 v8 v9 v10 v11 v12 v13 v14 v15 v16 v17 v18 v19 v20 v21 v22 v23 : Value} (hu : Up W W') (h : Up w W ∧ W.cell? p0 = some v0 ∧ W.cell? p1 = some v1 ∧ W.cell? p2 = some v2 ∧ W.cell? p3 = some v3 ∧ W.cell? p4 = some v4 ∧ W.cell? p5 = some v5 ∧ W.cell? p6 = some v6 ∧ W.cell? p7 = some v7 ∧ W.cell? p8 = some v8 ∧ W.cell? p9 = some v9 ∧ W.cell? p10 = some v10 ∧ W.cell? p11 = some v11 ∧ W.cell? p12 = some v12 ∧ W.cell? p13 = some v13 ∧ W.cell? p14 = some v14 ∧ W.cell? p15 = some v15 ∧ W.cell? p16 = some v16 ∧ W.cell? p17 = some v17 ∧ W.cell? p18 = some v18 ∧ W.cell? p19 = some v19 ∧ W.cell? p20 = some v20 ∧ W.cell? p21 = some v21 ∧ W.cell? p22 = some v22 ∧ W.cell? p23 = some v23) : Up w W' ∧ W'.cell? p0 = some v0 ∧ W'.cell? p1 = some v1 ∧ W'.cell? p2 = some v2 ∧ W'.cell? p3 = some v3 ∧ W'.cell? p4 = some v4 ∧ W'.cell? p5 = some v5 ∧ W'.cell? p6 = some v6 ∧ W'.cell? p7 = some v7 ∧ W'.cell? p8 = some v8 ∧ W'.cell? p9 = some v9 ∧ W'.cell? p10 = some v10 ∧ W'.cell? p11 = some v11 ∧ W'.cell? p12 = some v12 ∧ W'.cell? p13 = some v13 ∧ W'.cell? p14 = some v14 ∧ W'.cell? p15 = some v15 ∧ W'.cell? p16 = some v16 ∧ W'.cell? p17 = some v17 ∧ W'.cell? p18 = some v18 ∧ W'.cell? p19 = some v19 ∧ W'.cell? p20 = some v20 ∧ W'.cell? p21 = some v21 ∧ W'.cell? p22 = some v22 ∧ W'.cell? p23 = some v23 := by
  obtain ⟨h, h0, h1, h2, h3, h4, h5, h6, h7, h8, h9, h10, h11, h12, h13, h14, h15, h16, h17, h18, h19, h20, h21, h22, h23⟩ := h
  exact ⟨h.trans hu, cell_up hu h0, cell_up hu h1, cell_up hu h2, cell_up hu h3, cell_up hu h4, cell_up hu h5, cell_up hu h6, cell_up hu h7, cell_up hu h8, cell_up hu h9, cell_up hu h10, cell_up hu h11, cell_up hu h12, cell_up hu h13, cell_up hu h14, cell_up hu h15, cell_up hu h16, cell_up hu h17, cell_up hu h18, cell_up hu h19, cell_up hu h20, cell_up hu h21, cell_up hu h22, cell_up hu h23⟩
theorem keep25 {w W W' : World} {p0 p1 p2 p3 p4 p5 p6 p7 p8 p9 p10 p11 p12 p13 p14 p15 p16 p17 p18 p19 p20 p21 p22 p23 p24 : Addr} {v0 v1 v2 v3 v4 v5 v6 v7 v8 v9 v10 v11 v12 v13 v14 v15 v16 v17 v18 v19 v20 v21 v22 v23 v24 : Value} (hu : Up W W') (h : Up w W ∧ W.cell? p0 = some v0 ∧ W.cell? p1 = some v1 ∧ W.cell? p2 = some v2 ∧ W.cell? p3 = some v3 ∧ W.cell? p4 = some v4 ∧ W.cell? p5 = some v5 ∧ W.cell? p6 = some v6 ∧ W.cell? p7 = some v7 ∧ W.cell? p8 = some v8 ∧ W.cell? p9 = some v9 ∧ W.cell? p10 = some v10 ∧ W.cell? p11 = some v11 ∧ W.cell? p12 = some v12 ∧ W.cell? p13 = some v13 ∧ W.cell? p14 = some v14 ∧ W.cell? p15 = some v15 ∧ W.cell? p16 = some v16 ∧ W.cell? p17 = some v17 ∧ W.cell? p18 = some v18 ∧ W.cell? p19 = some v19 ∧ W.cell? p20 = some v20 ∧ W.cell? p21 = some v21 ∧ W.cell? p22 = some v22 ∧ W.cell? p23 = some v23 ∧ W.cell? p24 = some v24) : Up w W' ∧ W'.cell? p0 = some v0 ∧ W'.cell? p1 = some v1 ∧ W'.cell? p2 = some v2 ∧ W'.cell? p3 = some v3 ∧ W'.cell? p4 = some v4 ∧ W'.cell? p5 = some v5 ∧ W'.cell? p6 = some v6 ∧ W'.cell? p7 = some v7 ∧ W'.cell? p8 = some v8 ∧ W'.cell? p9 = some v9 ∧ W'.cell? p10 = some v10 ∧ W'.cell? p11 = some v11 ∧ W'.cell? p12 = some v12 ∧ W'.cell? p13 = some v13 ∧ W'.cell? p14 = some v14 ∧ W'.cell? p15 = some v15 ∧ W'.cell? p16 = some v16 ∧ W'.cell? p17 = some v17 ∧ W'.cell? p18 = some v18 ∧ W'.cell? p19 = some v19 ∧ W'.cell? p20 = some v20 ∧ W'.cell? p21 = some v21 ∧ W'.cell? p22 = some v22 ∧ W'.cell? p23 = some v23 ∧ W'.cell? p24 = some v24 := by
  obtain ⟨h, h0, h1, h2, h3, h4, h5, h6, h7, h8, h9, h10, h11, h12, h13, h14, h15, h16, h17, h18, h19, h20, h21, h22, h23, h24⟩ := h
  exact ⟨h.trans hu, cell_up hu h0, cell_up hu h1, cell_up hu h2, cell_up hu h3, cell_up hu h4, cell_up hu h5, cell_up hu h6, cell_up hu h7, cell_up hu h8, cell_up hu h9, cell_up hu h10, cell_up hu h11, cell_up hu h12, cell_up hu h13, cell_up hu h14, cell_up hu h15, cell_up hu h16, cell_up hu h17, cell_up hu h18, cell_up hu h19, cell_up hu h20, cell_up hu h21, cell_up hu h22, cell_up hu h23, cell_up hu h24⟩
theorem keep26 {w W W' : World} {p0 p1 p2 p3 p4 p5 p6 p7 p8 p9 p10 p11 p12 p13 p14 p15 p16 p17 p18 p19 p20 p21 p22 p23 p24 p25 : Addr} {v0 v1 v2 v3 v4 v5 v6 v7 v8 v9 v10 v11 v12 v13 v14 v15 v16 v17 v18 v19 v20 v21 v22 v23 v24 v25 : Value} (hu : Up W W') (h : Up w W ∧ W.cell? p0 = some v0 ∧ W.cell? p1 = some v1 ∧ W.cell? p2 = some v2 ∧ W.cell? p3 = some v3 ∧ W.cell? p4 = some v4 ∧ W.cell? p5 = some v5 ∧ W.cell? p6 = some v6 ∧ W.cell? p7 = some v7 ∧ W.cell? p8 = some v8 ∧ W.cell? p9 = some v9 ∧ W.cell? p10 = some v10 ∧ W.cell? p11 = some v11 ∧ W.cell? p12 = some v12 ∧ W.cell? p13 = some v13 ∧ W.cell? p14 = some v14 ∧ W.cell? p15 = some v15 ∧ W.cell? p16 = some v16 ∧ W.cell? p17 = some v17 ∧ W.cell? p18 = some v18 ∧ W.cell? p19 = some v19 ∧ W.cell? p20 = some v20 ∧ W.cell? p21 = some v21 ∧ W.cell? p22 = some v22 ∧ W.cell? p23 = some v23 ∧ W.cell? p24 = some v24 ∧ W.cell? p25 = some v25) : Up w W' ∧ W'.cell? p0 = some v0 ∧ W'.cell? p1 = some v1 ∧ W'.cell? p2 = some v2 ∧ W'.cell? p3 = some v3 ∧ W'.cell? p4 = some v4 ∧ W'.cell? p5 = some v5 ∧ W'.cell? p6 = some v6 ∧ W'.cell? p7 = some v7 ∧ W'.cell? p8 = some v8 ∧ W'.cell? p9 = some v9 ∧ W'.cell? p10 = some v10 ∧ W'.cell? p11 = some v11 ∧ W'.cell? p12 = some v12 ∧ W'.cell? p13 = some v13 ∧ W'.cell? p14 = some v14 ∧ W'.cell? p15 = some v15 ∧ W'.cell? p16 = some v16 ∧ W'.cell? p17 = some v17 ∧ W'.cell? p18 = some v18 ∧ W'.cell? p19 = some v19 ∧ W'.cell? p20 = some v20 ∧ W'.cell? p21 = some v21 ∧ W'.cell? p22 = some v22 ∧ W'.cell? p23 = some v23 ∧ W'.cell? p24 = some v24 ∧ W'.cell? p25 = some v25 := by
  obtain ⟨h, h0, h1, h2, h3, h4, h5, h6, h7, h8, h9, h10, h11, h12, h13, h14, h15, h16, h17, h18, h19, h20, h21, h22, h23, h24, h25⟩ := h
  exact ⟨h.trans hu, cell_up hu h0, cell_up hu h1, cell_up hu h2, cell_up hu h3, cell_up hu h4, cell_up hu h5, cell_up hu h6, cell_up hu h7, cell_up hu h8, cell_up hu h9, cell_up hu h10, cell_up hu h11, cell_up hu h12, cell_up hu h13, cell_up hu h14, cell_up hu h15, cell_up hu h16, cell_up hu h17, cell_up hu h18, cell_up hu h19, cell_up hu h20, cell_up hu h21, cell_up hu h22, cell_up hu h23, cell_up hu h24, cell_up hu h25⟩
theorem keep27 {w W W' : World} {p0 p1 p2 p3 p4 p5 p6 p7 p8 p9 p10 p11 p12 p13 p14 p15 p16 p17 p18 p19 p20 p21 p22 p23 p24 p25 p26 : Addr} {v0 v1 v2 v3 v4 v5 v6 v7 v8 v9 v10 v11 v12 v13 v14 v15 v16 v17 v18 v19 v20 v21 v22 v23 v24 v25 v26 : Value} (hu : Up W W') (h : Up w W ∧ W.cell? p0 = some v0 ∧ W.cell? p1 = some v1 ∧ W.cell? p2 = some v2 ∧ W.cell? p3 = some v3 ∧ W.cell? p4 = some v4 ∧ W.cell? p5 = some v5 ∧ W.cell? p6 = some v6 ∧ W.cell? p7 = some v7 ∧ W.cell? p8 = some v8 ∧ W.cell? p9 = some v9 ∧ W.cell? p10 = some v10 ∧ W.cell? p11 = some v11 ∧ W.cell? p12 = some v12 ∧ W.cell? p13 = some v13 ∧ W.cell? p14 = some v14 ∧ W.cell? p15 = some v15 ∧ W.cell? p16 = some v16 ∧ W.cell? p17 = some v17 ∧ W.cell? p18 = some v18 ∧ W.cell? p19 = some v19 ∧ W.cell? p20 = some v20 ∧ W.cell? p21 = some v21 ∧ W.cell? p22 = some v22 ∧ W.cell? p23 = some v23 ∧ W.cell? p24 = some v24 ∧ W.cell? p25 = some v25 ∧ W.cell? p26 = some v26) : Up w W' ∧ W'.cell? p0 = some v0 ∧ W'.cell? p1 = some v1 ∧ W'.cell? p2 = some v2 ∧ W'.cell? p3 = some v3 ∧ W'.cell? p4 = some v4 ∧ W'.cell? p5 = some v5 ∧ W'.cell? p6 = some v6 ∧ W'.cell? p7 = some v7 ∧ W'.cell? p8 = some v8 ∧ W'.cell? p9 = some v9 ∧ W'.cell? p10 = some v10 ∧ W'.cell? p11 = some v11 ∧ W'.cell? p12 = some v12 ∧ W'.cell? p13 = some v13 ∧ W'.cell? p14 = some v14 ∧ W'.cell? p15 = some v15 ∧ W'.cell? p16 = some v16 ∧ W'.cell? p17 = some v17 ∧ W'.cell? p18 = some v18 ∧ W'.cell? p19 = some v19 ∧ W'.cell? p20 = some v20 ∧ W'.cell? p21 = some v21 ∧ W'.cell? p22 = some v22 ∧ W'.cell? p23 = some v23 ∧ W'.cell? p24 = some v24 ∧ W'.cell? p25 = some v25 ∧ W'.cell? p26 = some v26 := by
  obtain ⟨h, h0, h1, h2, h3, h4, h5, h6, h7, h8, h9, h10, h11, h12, h13, h14, h15, h16, h17, h18, h19, h20, h21, h22, h23, h24, h25, h26⟩ := h
  exact ⟨h.trans hu, cell_up hu h0, cell_up hu h1, cell_up hu h2, cell_up hu h3, cell_up hu h4, cell_up hu h5, cell_up hu h6, cell_up hu h7, cell_up hu h8, cell_up hu h9, cell_up hu h10, cell_up hu h11, cell_up hu h12, cell_up hu h13, cell_up hu h14, cell_up hu h15, cell_up hu h16, cell_up hu h17, cell_up hu h18, cell_up hu h19, cell_up hu h20, cell_up hu h21, cell_up hu h22, cell_up hu h23, cell_up hu h24, cell_up hu h25, cell_up hu h26⟩
theorem keep28 {w W W' : World} {p0 p1 p2 p3 p4 p5 p6 p7 p8 p9 p10 p11 p12 p13 p14 p15 p16 p17 p18 p19 p20 p21 p22 p23 p24 p25 p26 p27 : Addr} {v0 v1 v2 v3 v4 v5 v6 v7 v8 v9 v10 v11 v12 v13 v14 v15 v16 v17 v18 v19 v20 v21 v22 v23 v24 v25 v26 v27 : Value} (hu : Up W W') (h : Up w W ∧ W.cell? p0 = some v0 ∧ W.cell? p1 = some v1 ∧ W.cell? p2 = some v2 ∧ W.cell? p3 = some v3 ∧ W.cell? p4 = some v4 ∧ W.cell? p5 = some v5 ∧ W.cell? p6 = some v6 ∧ W.cell? p7 = some v7 ∧ W.cell? p8 = some v8 ∧ W.cell? p9 = some v9 ∧ W.cell? p10 = some v10 ∧ W.cell? p11 = some v11 ∧ W.cell? p12 = some v12 ∧ W.cell? p13 = some v13 ∧ W.cell? p14 = some v14 ∧ W.cell? p15 = some v15 ∧ W.cell? p16 = some v16 ∧ W.cell? p17 = some v17 ∧ W.cell? p18 = some v18 ∧ W.cell? p19 = some v19 ∧ W.cell? p20 = some v20 ∧ W.cell? p21 = some v21 ∧ W.cell? p22 = some v22 ∧ W.cell? p23 = some v23 ∧ W.cell? p24 = some v24 ∧ W.cell? p25 = some v25 ∧ W.cell? p26 = some v26 ∧ W.cell? p27 = some v27) : Up w W' ∧ W'.cell? p0 = some v0 ∧ W'.cell? p1 = some v1 ∧ W'.cell? p2 = some v2 ∧ W'.cell? p3 = some v3 ∧ W'.cell? p4 = some v4 ∧ W'.cell? p5 = some v5 ∧ W'.cell? p6 = some v6 ∧ W'.cell? p7 = some v7 ∧ W'.cell? p8 = some v8 ∧ W'.cell? p9 = some v9 ∧ W'.cell? p10 = some v10 ∧ W'.cell? p11 = some v11 ∧ W'.cell? p12 = some v12 ∧ W'.cell? p13 = some v13 ∧ W'.cell? p14 = some v14 ∧ W'.cell? p15 = some v15 ∧ W'.cell? p16 = some v16 ∧ W'.cell? p17 = some v17 ∧ W'.cell? p18 = some v18 ∧ W'.cell? p19 = some v19 ∧ W'.cell? p20 = some v20 ∧ W'.cell? p21 = some v21 ∧ W'.cell? p22 = some v22 ∧ W'.cell? p23 = some v23 ∧ W'.cell? p24 = some v24 ∧ W'.cell? p25 = some v25 ∧ W'.cell? p26 = some v26 ∧ W'.cell? p27 = some v27 := by
  obtain ⟨h, h0, h1, h2, h3, h4, h5, h6, h7, h8, h9, h10, h11, h12, h13, h14, h15, h16, h17, h18, h19, h20, h21, h22, h23, h24, h25, h26, h27⟩ := h
  exact ⟨h.trans hu, cell_up hu h0, cell_up hu h1, cell_up hu h2, cell_up hu h3, cell_up hu h4, cell_up hu h5, cell_up hu h6, cell_up hu h7, cell_up hu h8, cell_up hu h9, cell_up hu h10, cell_up hu h11, cell_up hu h12, cell_up hu h13, cell_up hu h14, cell_up hu h15, cell_up hu h16, cell_up hu h17, cell_up hu h18, cell_up hu h19, cell_up hu h20, cell_up hu h21, cell_up hu h22, cell_up hu h23, cell_up hu h24, cell_up hu h25, cell_up hu h26, cell_up hu h27⟩
theorem keep29 {w W W' : World} {p0 p1 p2 p3 p4 p5 p6 p7 p8 p9 p10 p11 p12 p13 p14 p15 p16 p17 p18 p19 p20 p21 p22 p23 p24 p25 p26 p27 p28 : Addr} {v0 v1 v2 v3 v4 v5 v6 v7 v8 v9 v10 v11 v12 v13 v14 v15 v16 v17 v18 v19 v20 v21 v22 v23 v24 v25 v26 v27 v28 : Value} (hu : Up W W') (h : Up w W ∧ W.cell? p0 = some v0 ∧ W.cell? p1 = some v1 ∧ W.cell? p2 = some v2 ∧ W.cell? p3 = some v3 ∧ W.cell? p4 = some v4 ∧ W.cell? p5 = some v5 ∧ W.cell? p6 = some v6 ∧ W.cell? p7 = some v7 ∧ W.cell? p8 = some v8 ∧ W.cell? p9 = some v9 ∧ W.cell? p10 = some v10 ∧ W.cell? p11 = some v11 ∧ W.cell? p12 = some v12 ∧ W.cell? p13 = some v13 ∧ W.cell? p14 = some v14 ∧ W.cell? p15 = some v15 ∧ W.cell? p16 = some v16 ∧ W.cell? p17 = some v17 ∧ W.cell? p18 = some v18 ∧ W.cell? p19 = some v19 ∧ W.cell? p20 = some v20 ∧ W.cell? p21 = some v21 ∧ W.cell? p22 = some v22 ∧ W.cell? p23 = some v23 ∧ W.cell? p24 = some v24 ∧ W.cell? p25 = some v25 ∧ W.cell? p26 = some v26 ∧ W.cell? p27 = some v27 ∧ W.cell? p28 = some v28) : Up w W' ∧ W'.cell? p0 = some v0 ∧ W'.cell? p1 = some v1 ∧ W'.cell? p2 = some v2 ∧ W'.cell? p3 = some v3 ∧ W'.cell? p4 = some v4 ∧ W'.cell? p5 = some v5 ∧ W'.cell? p6 = some v6 ∧ W'.cell? p7 = some v7 ∧ W'.cell? p8 = some v8 ∧ W'.cell? p9 = some v9 ∧ W'.cell? p10 = some v10 ∧ W'.cell? p11 = some v11 ∧ W'.cell? p12 = some v12 ∧ W'.cell? p13 = some v13 ∧ W'.cell? p14 = some v14 ∧ W'.cell? p15 = some v15 ∧ W'.cell? p16 = some v16 ∧ W'.cell? p17 = some v17 ∧ W'.cell? p18 = some v18 ∧ W'.cell? p19 = some v19 ∧ W'.cell? p20 = some v20 ∧ W'.cell? p21 = some v21 ∧ W'.cell? p22 = some v22 ∧ W'.cell? p23 = some v23 ∧ W'.cell? p24 = some v24 ∧ W'.cell? p25 = some v25 ∧ W'.cell? p26 = some v26 ∧ W'.cell? p27 = some v27 ∧ W'.cell? p28 = some v28 := by
  obtain ⟨h, h0, h1, h2, h3, h4, h5, h6, h7, h8, h9, h10, h11, h12, h13, h14, h15, h16, h17, h18, h19, h20, h21, h22, h23, h24, h25, h26, h27, h28⟩ := h
  exact ⟨h.trans hu, cell_up hu h0, cell_up hu h1, cell_up hu h2, cell_up hu h3, cell_up hu h4, cell_up hu h5, cell_up hu h6, cell_up hu h7, cell_up hu h8, cell_up hu h9, cell_up hu h10, cell_up hu h11, cell_up hu h12, cell_up hu h13, cell_up hu h14, cell_up hu h15, cell_up hu h16, cell_up hu h17, cell_up hu h18, cell_up hu h19, cell_up hu h20, cell_up hu h21, cell_up hu h22, cell_up hu h23, cell_up hu h24, cell_up hu h25, cell_up hu h26, cell_up hu h27, cell_up hu h28⟩
theorem keep30 {w W W' : World} {p0 p1 p2 p3 p4 p5 p6 p7 p8 p9 p10 p11 p12 p13 p14 p15 p16 p17 p18 p19 p20 p21 p22 p23 p24 p25 p26 p27 p28 p29 : Addr} {v0 v1 v2 v3 v4 v5 v6 v7 v8 v9 v10 v11 v12 v13 v14 v15 v16 v17 v18 v19 v20 v21 v22 v23 v24 v25 v26 v27 v28 v29 : Value} (hu : Up W W') (h : Up w W ∧ W.cell? p0 = some v0 ∧ W.cell? p1 = some v1 ∧ W.cell? p2 = some v2 ∧ W.cell? p3 = some v3 ∧ W.cell? p4 = some v4 ∧ W.cell? p5 = some v5 ∧ W.cell? p6 = some v6 ∧ W.cell? p7 = some v7 ∧ W.cell? p8 = some v8 ∧ W.cell? p9 = some v9 ∧ W.cell? p10 = some v10 ∧ W.cell? p11 = some v11 ∧ W.cell? p12 = some v12 ∧ W.cell? p13 = some v13 ∧ W.cell? p14 = some v14 ∧ W.cell? p15 = some v15 ∧ W.cell? p16 = some v16 ∧ W.cell? p17 = some v17 ∧ W.cell? p18 = some v18 ∧ W.cell? p19 = some v19 ∧ W.cell? p20 = some v20 ∧ W.cell? p21 = some v21 ∧ W.cell? p22 = some v22 ∧ W.cell? p23 = some v23 ∧ W.cell? p24 = some v24 ∧ W.cell? p25 = some v25 ∧ W.cell? p26 = some v26 ∧ W.cell? p27 = some v27 ∧ W.cell? p28 = some v28 ∧ W.cell? p29 = some v29) : Up w W' ∧ W'.cell? p0 = some v0 ∧ W'.cell? p1 = some v1 ∧ W'.cell? p2 = some v2 ∧ W'.cell? p3 = some v3 ∧ W'.cell? p4 = some v4 ∧ W'.cell? p5 = some v5 ∧ W'.cell? p6 = some v6 ∧ W'.cell? p7 = some v7 ∧ W'.cell? p8 = some v8 ∧ W'.cell? p9 = some v9 ∧ W'.cell? p10 = some v10 ∧ W'.cell? p11 = some v11 ∧ W'.cell? p12 = some v12 ∧ W'.cell? p13 = some v13 ∧ W'.cell? p14 = some v14 ∧ W'.cell? p15 = some v15 ∧ W'.cell? p16 = some v16 ∧ W'.cell? p17 = some v17 ∧ W'.cell? p18 = some v18 ∧ W'.cell? p19 = some v19 ∧ W'.cell? p20 = some v20 ∧ W'.cell? p21 = some v21 ∧ W'.cell? p22 = some v22 ∧ W'.cell? p23 = some v23 ∧ W'.cell? p24 = some v24 ∧ W'.cell? p25 = some v25 ∧ W'.cell? p26 = some v26 ∧ W'.cell? p27 = some v27 ∧ W'.cell? p28 = some v28 ∧ W'.cell? p29 = some v29 := by
  obtain ⟨h, h0, h1, h2, h3, h4, h5, h6, h7, h8, h9, h10, h11, h12, h13, h14, h15, h16, h17, h18, h19, h20, h21, h22, h23, h24, h25, h26, h27, h28, h29⟩ := h
  exact ⟨h.trans hu, cell_up hu h0, cell_up hu h1, cell_up hu h2, cell_up hu h3, cell_up hu h4, cell_up hu h5, cell_up hu h6, cell_up hu h7, cell_up hu h8, cell_up hu h9, cell_up hu h10, cell_up hu h11, cell_up hu h12, cell_up hu h13, cell_up hu h14, cell_up hu h15, cell_up hu h16, cell_up hu h17, cell_up hu h18, cell_up hu h19, cell_up hu h20, cell_up hu h21, cell_up hu h22, cell_up hu h23, cell_up hu h24, cell_up hu h25, cell_up hu h26, cell_up hu h27, cell_up hu h28, cell_up hu h29⟩
theorem keep31 {w W W' : World} {p0 p1 p2 p3 p4 p5 p6 p7 p8 p9 p10 p11 p12 p13 p14 p15 p16 p17 p18 p19 p20 p21 p22 p23 p24 p25 p26 p27 p28 p29 p30 : Addr} {v0 v1 v2 v3 v4 v5 v6 v7 v8 v9 v10 v11 v12 v13 v14 v15 v16 v17 v18 v19 v20 v21 v22 v23 v24 v25 v26 v27 v28 v29 v30 : Value} (hu : Up W W') (h : Up w W ∧ W.cell? p0 = some v0 ∧ W.cell? p1 = some v1 ∧ W.cell? p2 = some v2 ∧ W.cell? p3 = some v3 ∧ W.cell? p4 = some v4 ∧ W.cell? p5 = some v5 ∧ W.cell? p6 = some v6 ∧ W.cell? p7 = some v7 ∧ W.cell? p8 = some v8 ∧ W.cell? p9 = some v9 ∧ W.cell? p10 = some v10 ∧ W.cell? p11 = some v11 ∧ W.cell? p12 = some v12 ∧ W.cell? p13 = some v13 ∧ W.cell? p14 = some v14 ∧ W.cell? p15 = some v15 ∧ W.cell? p16 = some v16 ∧ W.cell? p17 = some v17 ∧ W.cell? p18 = some v18 ∧ W.cell? p19 = some v19 ∧ W.cell? p20 = some v20 ∧ W.cell? p21 = some v21 ∧ W.cell? p22 = some v22 ∧ W.cell? p23 = some v23 ∧ W.cell? p24 = some v24 ∧ W.cell? p25 = some v25 ∧ W.cell? p26 = some v26 ∧ W.cell? p27 = some v27 ∧ W.cell? p28 = some v28 ∧ W.cell? p29 = some v29 ∧ W.cell? p30 = some v30) : Up w W' ∧ W'.cell? p0 = some v0 ∧ W'.cell? p1 = some v1 ∧ W'.cell? p2 = some v2 ∧ W'.cell? p3 = some v3 ∧ W'.cell? p4 = some v4 ∧ W'.cell? p5 = some v5 ∧ W'.cell? p6 = some v6 ∧ W'.cell? p7 = some v7 ∧ W'.cell? p8 = some v8 ∧ W'.cell? p9 = some v9 ∧ W'.cell? p10 = some v10 ∧ W'.cell? p11 = some v11 ∧ W'.cell? p12 = some v12 ∧ W'.cell? p13 = some v13 ∧ W'.cell? p14 = some v14 ∧ W'.cell? p15 = some v15 ∧ W'.cell? p16 = some v16 ∧ W'.cell? p17 = some v17 ∧ W'.cell? p18 = some v18 ∧ W'.cell? p19 = some v19 ∧ W'.cell? p20 = some v20 ∧ W'.cell? p21 = some v21 ∧ W'.cell? p22 = some v22 ∧ W'.cell? p23 = some v23 ∧ W'.cell? p24 = some v24 ∧ W'.cell? p25 = some v25 ∧ W'.cell? p26 = some v26 ∧ W'.cell? p27 = some v27 ∧ W'.cell? p28 = some v28 ∧ W'.cell? p29 = some v29 ∧ W'.cell? p30 = some v30 := by
  obtain ⟨h, h0, h1, h2, h3, h4, h5, h6, h7, h8, h9, h10, h11, h12, h13, h14, h15, h16, h17, h18, h19, h20, h21, h22, h23, h24, h25, h26, h27, h28, h29, h30⟩ := h
  exact ⟨h.trans hu, cell_up hu h0, cell_up hu h1, cell_up hu h2, cell_up hu h3, cell_up hu h4, cell_up hu h5, cell_up hu h6, cell_up hu h7, cell_up hu h8, cell_up hu h9, cell_up hu h10, cell_up hu h11, cell_up hu h12, cell_up hu h13, cell_up hu h14, cell_up hu h15, cell_up hu h16, cell_up hu h17, cell_up hu h18, cell_up hu h19, cell_up hu h20, cell_up hu h21, cell_up hu h22, cell_up hu h23, cell_up hu h24, cell_up hu h25, cell_up hu h26, cell_up hu h27, cell_up hu h28, cell_up hu h29, cell_up hu h30⟩
theorem keep32 {w W W' : World} {p0 p1 p2 p3 p4 p5 p6 p7 p8 p9 p10 p11 p12 p13 p14 p15 p16 p17 p18 p19 p20 p21 p22 p23 p24 p25 p26 p27 p28 p29 p30 p31 : Addr} {v0 v1 v2 v3 v4 v5 v6 v7 v8 v9 v10 v11 v12 v13 v14 v15 v16 v17 v18 v19 v20 v21 v22 v23 v24 v25 v26 v27 v28 v29 v30 v31 : Value} (hu : Up W W') (h : Up w W ∧ W.cell? p0 = some v0 ∧ W.cell? p1 = some v1 ∧ W.cell? p2 = some v2 ∧ W.cell? p3 = some v3 ∧ W.cell? p4 = some v4 ∧ W.cell? p5 = some v5 ∧ W.cell? p6 = some v6 ∧ W.cell? p7 = some v7 ∧ W.cell? p8 = some v8 ∧ W.cell? p9 = some v9 ∧ W.cell? p10 = some v10 ∧ W.cell? p11 = some v11 ∧ W.cell? p12 = some v12 ∧ W.cell? p13 = some v13 ∧ W.cell? p14 = some v14 ∧ W.cell? p15 = some v15 ∧ W.cell? p16 = some v16 ∧ W.cell? p17 = some v17 ∧ W.cell? p18 = some v18 ∧ W.cell? p19 = some v19 ∧ W.cell? p20 = some v20 ∧ W.cell? p21 = some v21 ∧ W.cell? p22 = some v22 ∧ W.cell? p23 = some v23 ∧ W.cell? p24 = some v24 ∧ W.cell? p25 = some v25 ∧ W.cell? p26 = some v26 ∧ W.cell? p27 = some v27 ∧ W.cell? p28 = some v28 ∧ W.cell? p29 = some v29 ∧ W.cell? p30 = some v30 ∧ W.cell? p31 = some v31) : Up w W' ∧ W'.cell? p0 = some v0 ∧ W'.cell? p1 = some v1 ∧ W'.cell? p2 = some v2 ∧ W'.cell? p3 = some v3 ∧ W'.cell? p4 = some v4 ∧ W'.cell? p5 = some v5 ∧ W'.cell? p6 = some v6 ∧ W'.cell? p7 = some v7 ∧ W'.cell? p8 = some v8 ∧ W'.cell? p9 = some v9 ∧ W'.cell? p10 = some v10 ∧ W'.cell? p11 = some v11 ∧ W'.cell? p12 = some v12 ∧ W'.cell? p13 = some v13 ∧ W'.cell? p14 = some v14 ∧ W'.cell? p15 = some v15 ∧ W'.cell? p16 = some v16 ∧ W'.cell? p17 = some v17 ∧ W'.cell? p18 = some v18 ∧ W'.cell? p19 = some v19 ∧ W'.cell? p20 = some v20 ∧ W'.cell? p21 = some v21 ∧ W'.cell? p22 = some v22 ∧ W'.cell? p23 = some v23 ∧ W'.cell? p24 = some v24 ∧ W'.cell? p25 = some v25 ∧ W'.cell? p26 = some v26 ∧ W'.cell? p27 = some v27 ∧ W'.cell? p28 = some v28 ∧ W'.cell? p29 = some v29 ∧ W'.cell? p30 = some v30 ∧ W'.cell? p31 = some v31 := by
  obtain ⟨h, h0, h1, h2, h3, h4, h5, h6, h7, h8, h9, h10, h11, h12, h13, h14, h15, h16, h17, h18, h19, h20, h21, h22, h23, h24, h25, h26, h27, h28, h29, h30, h31⟩ := h
  exact ⟨h.trans hu, cell_up hu h0, cell_up hu h1, cell_up hu h2, cell_up hu h3, cell_up hu h4, cell_up hu h5, cell_up hu h6, cell_up hu h7, cell_up hu h8, cell_up hu h9, cell_up hu h10, cell_up hu h11, cell_up hu h12, cell_up hu h13, cell_up hu h14, cell_up hu h15, cell_up hu h16, cell_up hu h17, cell_up hu h18, cell_up hu h19, cell_up hu h20, cell_up hu h21, cell_up hu h22, cell_up hu h23, cell_up hu h24, cell_up hu h25, cell_up hu h26, cell_up hu h27, cell_up hu h28, cell_up hu h29, cell_up hu h30, cell_up hu h31⟩
end Go.Proofs.YtalmjdlcogdpmaaGreatDoor

namespace Go.Proofs.YtalmjdlcogdpmaaGreatDoor
open Go.RowKit

/-- cmp.Compare on whole numbers. -/
def cmpv (a b : Int) : Int := if a < b then -1 else if a > b then 1 else 0

set_option maxHeartbeats 400000 in
theorem compare_int (a b : Int) (w : World) : Calls Tryz.prog 40 #[.int .i64 a, .int .i64 b] w fun e w' => e = .returned (.int .i64 (cmpv a b)) ∧ w = w' := by
  by_cases h : a < b
  · go_enter Tryz.func40, Tryz.ntmps40
    go_wp2
    go_ret
    exact ⟨ret_int (by unfold cmpv; rw [if_pos h]), rfl⟩
  · by_cases h2 : b < a
    · go_enter Tryz.func40, Tryz.ntmps40
      go_wp2
      go_ret
      exact ⟨ret_int (by unfold cmpv; rw [if_neg (by omega), if_pos h2]), rfl⟩
    · go_enter Tryz.func40, Tryz.ntmps40
      go_wp2
      go_ret
      exact ⟨ret_int (by unfold cmpv; rw [if_neg (by omega), if_neg (by omega)]), rfl⟩

set_option maxHeartbeats 400000 in
theorem compare_int64 (a b : Int) (w : World) : Calls Tryz.prog 51 #[.int .i64 a, .int .i64 b] w fun e w' => e = .returned (.int .i64 (cmpv a b)) ∧ w = w' := by
  by_cases h : a < b
  · go_enter Tryz.func51, Tryz.ntmps51
    go_wp2
    go_ret
    exact ⟨ret_int (by unfold cmpv; rw [if_pos h]), rfl⟩
  · by_cases h2 : b < a
    · go_enter Tryz.func51, Tryz.ntmps51
      go_wp2
      go_ret
      exact ⟨ret_int (by unfold cmpv; rw [if_neg (by omega), if_pos h2]), rfl⟩
    · go_enter Tryz.func51, Tryz.ntmps51
      go_wp2
      go_ret
      exact ⟨ret_int (by unfold cmpv; rw [if_neg (by omega), if_neg (by omega)]), rfl⟩

/-- cmp.Or on whole numbers: the first that is not 0. -/
def orv : List Int → Int
  | [] => 0
  | x :: l => if x = 0 then orv l else x
theorem orv_take (l : List Int) (k : Nat) (hk : k < l.length) (h0 : ∀ i, i < k → l[i]?.getD 0 = 0) (hx : l[k]?.getD 0 ≠ 0) : orv l = l[k]?.getD 0 := by
  induction l generalizing k with
  | nil => simp at hk
  | cons x l ih =>
    cases k with
    | zero => simp at hx ⊢; simp [orv, hx]
    | succ k =>
      have hx0 : x = 0 := by simpa using h0 0 (by omega)
      simp only [orv, hx0, if_true]
      simpa using ih k (by simpa using hk) (fun i hi => by simpa using h0 (i + 1) (by omega)) (by simpa using hx)
theorem orv_zero (l : List Int) (h0 : ∀ i, i < l.length → l[i]?.getD 0 = 0) : orv l = 0 := by
  induction l with
  | nil => rfl
  | cons x l ih =>
    have hx0 : x = 0 := by simpa using h0 0 (by simp)
    simp only [orv, hx0, if_true]
    exact ih fun i hi => by simpa using h0 (i + 1) (by simpa using hi)

set_option maxHeartbeats 400000 in
theorem or_any (b n : Nat) (l : List Int) (w : World) (hn : n = l.length) (hm : n ≤ 1000) (hc : ∀ i, i < n → w.cell? ⟨b, i, none⟩ = some (.int .i64 (l[i]?.getD 0))) :
    Calls Tryz.prog 38 #[.slice (some ⟨b, 0, none⟩) n n] w fun e w' => e = .returned (.int .i64 (orv l)) ∧ w = w' := by
  have HN : Hid (n = l.length) := hn
  clear hn
  go_enter Tryz.func38, Tryz.ntmps38
  go_wp2
  go_loop [8] (fun i => ∃ k : Nat, k ≤ n ∧ i = .int .i64 k ∧ ∀ j, j < k → l[j]?.getD 0 = 0) (fun i => n - (intOf i).toNat)
  case atStart => exact ⟨0, Nat.zero_le _, rfl, fun j hj => absurd hj (by omega)⟩
  case round =>
    obtain ⟨k, hk, rfl, hz⟩ := hrel
    by_cases hlt : k < n
    · have hck := hc k hlt
      have HZ := Lib.hid hz
      clear hz hc
      by_cases hx : l[k]?.getD 0 = 0
      · rw [hx] at hck
        have HX : Hid (l[k]?.getD 0 = 0) := hx
        clear hx
        go_wp2
        go_round
        case rel => exact ⟨k + 1, by omega, by go_num, fun j hj => by
          rcases (show j < k ∨ j = k by omega) with h | h
          · exact HZ.out j h
          · rw [h]; exact HX.out⟩
        case measure => simp [intOf]; omega
      · have hb : (l[k]?.getD 0 != 0) = true := by simpa using hx
        have hans : orv l = l[k]?.getD 0 := orv_take l k (by have := HN.out; omega) HZ.out hx
        have HA := Lib.hid hans
        clear hans
        go_wp2
        go_ret
        exact ⟨ret_int HA.out.symm, rfl⟩
    · have hans : orv l = 0 := orv_zero l fun i hi => hz i (by have := HN.out; omega)
      have HA := Lib.hid hans
      clear hans hz hc
      go_wp2
      go_ret
      exact ⟨ret_int HA.out.symm, rfl⟩

/-! ### Keys and messages -/
theorem fields_key : (Tryz.prog.fieldsOf 41).toList = [⟨ "Time", 2, 0, false, "", "", 0⟩, ⟨ "From", 3, 1, false, "", "", 8⟩, ⟨ "Seq", 3, 2, false, "", "", 16⟩] := by kernel_rfl
def keq (a0 a1 a2 b0 b1 b2 : Int) : Bool := decide (a0 = b0 ∧ a1 = b1 ∧ a2 = b2)
theorem run_key_eq (a0 a1 a2 b0 b1 b2 : Int) (W : World) :
    (binOp .eql 41 (.agg #[.int .i64 a0, .int .i64 a1, .int .i64 a2]) (.agg #[.int .i64 b0, .int .i64 b1, .int .i64 b2])).run Tryz.prog W = .ok (.bool (keq a0 a1 a2 b0 b1 b2)) W := by
  rw [run_eql_struct, run_equalIn_agg _ _ _ _ _ (by kernel_rfl) (by kernel_rfl), fields_key]
  unfold keq
  simp [Op.eqFields, go_sem]
  by_cases h0 : a0 = b0 <;> by_cases h1 : a1 = b1 <;> by_cases h2 : a2 = b2 <;> simp [h0, h1, h2]

/-- event.Compare. -/
def compv (a0 a1 a2 b0 b1 b2 : Int) : Int := orv [cmpv a0 b0, cmpv a1 b1, cmpv a2 b2]
theorem cmpv_self (a : Int) : cmpv a a = 0 := by unfold cmpv; rw [if_neg (by omega), if_neg (by omega)]
theorem compv_eq {a0 a1 a2 b0 b1 b2 : Int} (h : keq a0 a1 a2 b0 b1 b2 = true) : compv a0 a1 a2 b0 b1 b2 = 0 := by
  obtain ⟨rfl, rfl, rfl⟩ := of_decide_eq_true h
  unfold compv; rw [cmpv_self, cmpv_self, cmpv_self]; rfl

set_option maxHeartbeats 1000000 in
theorem key_compare (a0 a1 a2 b0 b1 b2 : Int) (w : World) :
    Calls Tryz.prog 39 #[.agg #[.int .i64 a0, .int .i64 a1, .int .i64 a2], .agg #[.int .i64 b0, .int .i64 b1, .int .i64 b2]] w fun e w' => e = .returned (.int .i64 (compv a0 a1 a2 b0 b1 b2)) ∧ Up w w' := by
  have heq := run_key_eq a0 a1 a2 b0 b1 b2
  cases hb : keq a0 a1 a2 b0 b1 b2
  · have h2 : Up w ((w.alloc (.cells #[.int .i64 a0, .int .i64 a1, .int .i64 a2] 41)).alloc (.cells #[.int .i64 b0, .int .i64 b1, .int .i64 b2] 41)).drew := (((Up.refl w).alloc _ _).alloc _ _).drew
    go_enter Tryz.func39, Tryz.ntmps39
    go_wp2_with fail
    go_region_held3 (fun w' => Up w w' ∧ w'.cell? ⟨w.heap.size, 0, none⟩ = some (.int .i64 a0) ∧ w'.cell? ⟨w.heap.size, 1, none⟩ = some (.int .i64 a1) ∧ w'.cell? ⟨w.heap.size, 2, none⟩ = some (.int .i64 a2) ∧ w'.cell? ⟨w.heap.size + 1, 0, none⟩ = some (.int .i64 b0) ∧ w'.cell? ⟨w.heap.size + 1, 1, none⟩ = some (.int .i64 b1) ∧ w'.cell? ⟨w.heap.size + 1, 2, none⟩ = some (.int .i64 b2))
      (first | assumption | exact keep6 (by assumption) (by assumption) | exact keep6 (alloc_up_d _ _ _) (by assumption) | go_keep)
      (first
        | (go_at_call 51; refine (compare_int64 _ _ _).mono ?_; rintro x wn ⟨rfl, rfl⟩)
        | (go_at_call 40; refine (compare_int _ _ _).mono ?_; rintro x wn ⟨rfl, rfl⟩)
        | (go_at_call 38; refine (or_any _ _ [cmpv a0 b0, cmpv a1 b1, cmpv a2 b2] _ rfl (by simp) (by intro i hi; simp only [List.length_cons, List.length_nil] at hi; rcases (show i = 0 ∨ i = 1 ∨ i = 2 by omega) with rfl | rfl | rfl <;> simp [go_sem])).mono ?_; rintro x wn ⟨rfl, rfl⟩))
    have hu := And.left ‹Up w _ ∧ _›
    clear h2 heq
    go_wp2
    go_ret
    exact ⟨rfl, hu⟩
  · go_enter Tryz.func39, Tryz.ntmps39
    go_wp2
    go_ret
    exact ⟨ret_int (compv_eq hb).symm, ((Up.refl w).alloc _ _).alloc _ _⟩

structure Msg where
  t : Int
  f : Int
  s : Int
  to : Int
  v : Int
  u : Int
  an : Bool
abbrev Msg.val (m : Msg) : Value := .agg #[.int .i64 m.t, .int .i64 m.f, .int .i64 m.s, .int .i64 m.to, .int .i64 m.v, .int .i64 m.u, .bool m.an]
/-- event.order. -/
def ordv (a b : Msg) : Int := orv [compv a.t a.f a.s b.t b.f b.s, cmpv a.u b.u]
/-- event.Before. -/
def befB (a b : Msg) : Bool := decide (ordv a b < 0)

set_option maxHeartbeats 1000000 in
theorem order_any (a b : Msg) (w : World) :
    Calls Tryz.prog 23 #[a.val, b.val] w fun e w' => e = .returned (.int .i64 (ordv a b)) ∧ Up w w' := by
  obtain ⟨a0, a1, a2, a3, a4, a5, a6⟩ := a
  obtain ⟨b0, b1, b2, b3, b4, b5, b6⟩ := b
  have h2 : Up w ((w.alloc (.cells #[.int .i64 a0, .int .i64 a1, .int .i64 a2, .int .i64 a3, .int .i64 a4, .int .i64 a5, .bool a6] 43)).alloc (.cells #[.int .i64 b0, .int .i64 b1, .int .i64 b2, .int .i64 b3, .int .i64 b4, .int .i64 b5, .bool b6] 43)).drew := (((Up.refl w).alloc _ _).alloc _ _).drew
  go_enter Tryz.func23, Tryz.ntmps23
  go_wp2_with fail
  go_region_held3 (fun w' => Up w w' ∧ w'.cell? ⟨w.heap.size, 0, none⟩ = some (.int .i64 a0) ∧ w'.cell? ⟨w.heap.size, 1, none⟩ = some (.int .i64 a1) ∧ w'.cell? ⟨w.heap.size, 2, none⟩ = some (.int .i64 a2) ∧ w'.cell? ⟨w.heap.size, 5, none⟩ = some (.int .i64 a5) ∧ w'.cell? ⟨w.heap.size + 1, 0, none⟩ = some (.int .i64 b0) ∧ w'.cell? ⟨w.heap.size + 1, 1, none⟩ = some (.int .i64 b1) ∧ w'.cell? ⟨w.heap.size + 1, 2, none⟩ = some (.int .i64 b2) ∧ w'.cell? ⟨w.heap.size + 1, 5, none⟩ = some (.int .i64 b5))
    (first | assumption | exact keep8 (by assumption) (by assumption) | exact keep8 (alloc_up _ _ _) (by assumption) | exact keep8 (alloc_up_d _ _ _) (by assumption) | go_keep)
    (first
      | (go_at_call 39; refine (key_compare _ _ _ _ _ _ _).mono ?_; rintro x wn ⟨rfl, hg⟩)
      | (go_at_call 40; refine (compare_int _ _ _).mono ?_; rintro x wn ⟨rfl, rfl⟩)
      | (go_at_call 38; refine (or_any _ _ [compv a0 a1 a2 b0 b1 b2, cmpv a5 b5] _ rfl (by simp) (by intro i hi; simp only [List.length_cons, List.length_nil] at hi; rcases (show i = 0 ∨ i = 1 by omega) with rfl | rfl <;> simp [go_sem])).mono ?_; rintro x wn ⟨rfl, rfl⟩))
  have hu := And.left ‹Up w _ ∧ _›
  clear h2
  go_wp2
  go_ret
  exact ⟨rfl, hu⟩

set_option maxHeartbeats 1000000 in
theorem before_any (a b : Msg) (w : World) :
    Calls Tryz.prog 8 #[a.val, b.val] w fun e w' => e = .returned (.bool (befB a b)) ∧ Up w w' := by
  go_enter Tryz.func8, Tryz.ntmps8
  go_wp2_with fail
  refine (order_any a b _).mono ?_
  rintro x wn ⟨rfl, hg⟩
  go_wp2
  go_ret
  exact ⟨rfl, ((((Up.refl w).alloc _ _).alloc _ _).trans hg)⟩
end Go.Proofs.YtalmjdlcogdpmaaGreatDoor

namespace Go.Proofs.YtalmjdlcogdpmaaGreatDoor

theorem ordv_lt (a b : Msg) : ordv a b < 0 ↔ (a.t < b.t ∨ (a.t = b.t ∧ (a.f < b.f ∨ (a.f = b.f ∧ (a.s < b.s ∨ (a.s = b.s ∧ a.u < b.u)))))) := by
  unfold ordv compv cmpv
  simp only [orv]
  repeat' split
  all_goals omega
theorem befB_iff (a b : Msg) : befB a b = true ↔ (a.t < b.t ∨ (a.t = b.t ∧ (a.f < b.f ∨ (a.f = b.f ∧ (a.s < b.s ∨ (a.s = b.s ∧ a.u < b.u)))))) := by
  unfold befB
  rw [decide_eq_true_iff]
  exact ordv_lt a b
theorem befB_not (a b : Msg) : befB a b = false ↔ ¬ (a.t < b.t ∨ (a.t = b.t ∧ (a.f < b.f ∨ (a.f = b.f ∧ (a.s < b.s ∨ (a.s = b.s ∧ a.u < b.u)))))) := by
  rw [← befB_iff]; simp
theorem befB_irrefl (a : Msg) : befB a a = false := (befB_not a a).2 (by omega)
theorem befB_trans {a b c : Msg} (h : befB a b = true) (k : befB b c = true) : befB a c = true := by
  rw [befB_iff] at *; omega
theorem befB_asymm {a b : Msg} (h : befB a b = true) : befB b a = false := by
  rw [befB_iff] at h; rw [befB_not]; omega
theorem nbef_trans {a b c : Msg} (h : befB b a = false) (k : befB c b = false) : befB c a = false := by
  rw [befB_not] at *; omega
theorem bef_of_nbef {a b c : Msg} (h : befB a b = true) (k : befB c b = false) : befB a c = true := by
  rw [befB_iff] at *; rw [befB_not] at k; omega
theorem nbef_bef {a b c : Msg} (h : befB b a = false) (k : befB b c = true) : befB a c = true := by
  rw [befB_iff] at *; rw [befB_not] at h; omega
/-- One order number. -/
def oneKey (a b : Msg) : Prop := a.t = b.t ∧ a.f = b.f ∧ a.s = b.s ∧ a.u = b.u
theorem bef_total {a b : Msg} (h : befB a b = false) (k : befB b a = false) : oneKey a b := by
  rw [befB_not] at *; unfold oneKey; omega
theorem bef_of_ne {a b : Msg} (h : befB b a = false) (hu : a.u ≠ b.u) : befB a b = true := by
  rw [befB_not] at h; rw [befB_iff]; omega
theorem ordv_neg (a b : Msg) : decide (ordv a b < 0) = befB a b := rfl

/-! ### Lists in order -/
/-- In order from a on, ahead of b. -/
def Srt (L : List Msg) (a b : Nat) : Prop := ∀ i j x y, a ≤ i → i < j → j < b → L[i]? = some x → L[j]? = some y → befB y x = false
/-- Only from a on, ahead of b, has anything moved. -/
structure Mov (a b : Nat) (L L' : List Msg) : Prop where
  len : L'.length = L.length
  perm : L'.Perm L
  out : ∀ k, (k < a ∨ b ≤ k) → L'[k]? = L[k]?
  in' : ∀ k, a ≤ k → k < b → ∃ j, a ≤ j ∧ j < b ∧ L'[k]? = L[j]?
theorem Mov.refl (a b : Nat) (L : List Msg) : Mov a b L L := ⟨rfl, .refl _, fun _ _ => rfl, fun k h1 h2 => ⟨k, h1, h2, rfl⟩⟩
theorem Mov.trans {a b : Nat} {L M N : List Msg} (h : Mov a b L M) (k : Mov a b M N) : Mov a b L N :=
  ⟨k.len.trans h.len, k.perm.trans h.perm, fun i hi => (k.out i hi).trans (h.out i hi), fun i h1 h2 => by
    obtain ⟨j, j1, j2, j3⟩ := k.in' i h1 h2
    obtain ⟨l, l1, l2, l3⟩ := h.in' j j1 j2
    exact ⟨l, l1, l2, j3.trans l3⟩⟩
theorem Mov.mono {a b c d : Nat} {L M : List Msg} (h : Mov a b L M) (h1 : c ≤ a) (h2 : b ≤ d) : Mov c d L M :=
  ⟨h.len, h.perm, fun i hi => h.out i (by omega), fun i k1 k2 => by
    by_cases hi : a ≤ i ∧ i < b
    · obtain ⟨j, j1, j2, j3⟩ := h.in' i hi.1 hi.2
      exact ⟨j, by omega, by omega, j3⟩
    · exact ⟨i, k1, k2, h.out i (by omega)⟩⟩

/-- Two change places. -/
def swp (L : List Msg) (i j : Nat) : List Msg :=
  match L[i]?, L[j]? with
  | some x, some y => (L.set i y).set j x
  | _, _ => L
theorem swp_eq {L : List Msg} {i j : Nat} {x y : Msg} (hi : L[i]? = some x) (hj : L[j]? = some y) : swp L i j = (L.set i y).set j x := by
  unfold swp; rw [hi, hj]
theorem swp_length (L : List Msg) (i j : Nat) : (swp L i j).length = L.length := by
  unfold swp; split <;> simp
theorem swp_get {L : List Msg} {i j : Nat} (hi : i < L.length) (hj : j < L.length) (k : Nat) : (swp L i j)[k]? = if k = j then L[i]? else if k = i then L[j]? else L[k]? := by
  rw [swp_eq (List.getElem?_eq_getElem hi) (List.getElem?_eq_getElem hj)]
  rw [List.getElem?_set, List.length_set]
  by_cases h : j = k
  · subst h
    rw [if_pos rfl, if_pos hj, if_pos rfl, List.getElem?_eq_getElem hi]
  · rw [if_neg h, if_neg (fun e => h e.symm), List.getElem?_set]
    by_cases h2 : i = k
    · subst h2
      rw [if_pos rfl, if_pos hi, if_pos rfl, List.getElem?_eq_getElem hj]
    · rw [if_neg h2, if_neg (fun e => h2 e.symm)]
theorem set_perm {L : List Msg} {i j : Nat} {x y : Msg} : ∀ (_ : L[i]? = some x) (_ : L[j]? = some y), ((L.set i y).set j x).Perm L := by
  induction L generalizing i j x y with
  | nil => intro h; simp at h
  | cons z L ih =>
    intro hi hj
    cases i with
    | zero =>
      simp at hi
      subst hi
      cases j with
      | zero => simp at hj; subst hj; simp
      | succ j =>
        simp at hj
        simp only [List.set_cons_zero, List.set_cons_succ]
        obtain ⟨hl, rfl⟩ := List.getElem?_eq_some_iff.1 hj
        have h1 : L = L.take j ++ L[j] :: L.drop (j + 1) := by simp
        have h2 : L.set j z = L.take j ++ z :: L.drop (j + 1) := by rw [List.set_eq_take_append_cons_drop, if_pos hl]
        rw [h2]
        conv => rhs; rw [h1]
        refine (List.Perm.cons _ List.perm_middle).trans ?_
        refine (List.Perm.swap _ _ _).trans ?_
        exact List.Perm.cons _ List.perm_middle.symm
    | succ i =>
      simp at hi
      cases j with
      | zero =>
        simp at hj
        subst hj
        simp only [List.set_cons_zero, List.set_cons_succ]
        obtain ⟨hl, rfl⟩ := List.getElem?_eq_some_iff.1 hi
        have h1 : L = L.take i ++ L[i] :: L.drop (i + 1) := by simp
        have h2 : L.set i z = L.take i ++ z :: L.drop (i + 1) := by rw [List.set_eq_take_append_cons_drop, if_pos hl]
        rw [h2]
        conv => rhs; rw [h1]
        refine (List.Perm.cons _ List.perm_middle).trans ?_
        refine (List.Perm.swap _ _ _).trans ?_
        exact List.Perm.cons _ List.perm_middle.symm
      | succ j =>
        simp at hj
        simp only [List.set_cons_succ]
        exact List.Perm.cons _ (ih hi hj)
theorem swp_perm (L : List Msg) (i j : Nat) : (swp L i j).Perm L := by
  unfold swp
  split
  · exact set_perm (by assumption) (by assumption)
  · exact .refl _
theorem swp_mov {L : List Msg} {i j a b : Nat} (hi : i < L.length) (hj : j < L.length) (h1 : a ≤ i) (h2 : i < b) (h3 : a ≤ j) (h4 : j < b) : Mov a b L (swp L i j) :=
  ⟨swp_length _ _ _, swp_perm _ _ _, fun k hk => by rw [swp_get hi hj, if_neg (by omega), if_neg (by omega)], fun k k1 k2 => by
    rw [swp_get hi hj]
    by_cases e1 : k = j
    · exact ⟨i, h1, h2, by rw [if_pos e1]⟩
    · by_cases e2 : k = i
      · exact ⟨j, h3, h4, by rw [if_neg e1, if_pos e2]⟩
      · exact ⟨k, k1, k2, by rw [if_neg e1, if_neg e2]⟩⟩

/-! ### One more goes to its place -/
/-- In order from a to i, but for what stands at j, which is not behind those behind it. -/
def InsI (L : List Msg) (a i j : Nat) : Prop := ∀ p q x y, a ≤ p → p < q → q ≤ i → q ≠ j → L[p]? = some x → L[q]? = some y → befB y x = false
theorem InsI.start {L : List Msg} {a i : Nat} (h : Srt L a i) : InsI L a i i := fun p q x y h1 h2 h3 h4 hx hy => h p q x y h1 h2 (by omega) hx hy
theorem InsI.step {L : List Msg} {a i j : Nat} {x y : Msg} (h : InsI L a i j) (hj : a < j) (hji : j ≤ i) (hil : i < L.length) (hx : L[j]? = some x) (hy : L[j - 1]? = some y) (hlt : befB x y = true) : InsI (swp L j (j - 1)) a i (j - 1) := by
  intro p q u v h1 h2 h3 h4 hu hv
  rw [swp_get (by omega) (by omega)] at hu hv
  by_cases e1 : q = j
  · subst e1
    rw [if_neg (by omega), if_pos rfl] at hv
    by_cases e2 : p = q - 1
    · rw [if_pos e2, hx] at hu
      rw [hy] at hv
      cases hu; cases hv
      exact befB_asymm hlt
    · rw [if_neg e2, if_neg (by omega)] at hu
      exact h p (q - 1) u v h1 (by omega) (by omega) (by omega) hu hv
  · rw [if_neg h4, if_neg e1] at hv
    by_cases e2 : p = j - 1
    · rw [if_pos e2] at hu
      exact h j q u v (by omega) (by omega) h3 e1 hu hv
    · rw [if_neg e2] at hu
      by_cases e3 : p = j
      · rw [if_pos e3] at hu
        exact h (j - 1) q u v (by omega) (by omega) h3 e1 hu hv
      · rw [if_neg e3] at hu
        exact h p q u v h1 h2 h3 e1 hu hv
theorem InsI.stop {L : List Msg} {a i j : Nat} (h : InsI L a i j) (hj : j ≤ i) (hil : i < L.length) (hs : a < j → ∀ x y, L[j]? = some x → L[j - 1]? = some y → befB x y = false) : Srt L a (i + 1) := by
  intro p q x y h1 h2 h3 hx hy
  by_cases e : q = j
  · subst e
    by_cases e2 : p = q - 1
    · subst e2
      exact hs (by omega) y x hy hx
    · obtain ⟨z, hz⟩ : ∃ z, L[q - 1]? = some z := ⟨L[q - 1]'(by omega), List.getElem?_eq_getElem _⟩
      exact nbef_trans (h p (q - 1) x z h1 (by omega) (by omega) (by omega) hx hz) (hs (by omega) y z hy hz)
  · exact h p q x y h1 h2 (by omega) e hx hy
end Go.Proofs.YtalmjdlcogdpmaaGreatDoor

namespace Go.Proofs.YtalmjdlcogdpmaaGreatDoor
open Go.RowKit

def mxv (x y : Int) : Int := if y > x then y else x
def mnv (x y : Int) : Int := if y < x then y else x
theorem run_mx (ts : Array TypeId) (t : TypeId) (k k' : IntKind) (x y : Int) (w : World) : (Builtin.max_ ts t #[.int k x, .int k' y]).run Tryz.prog w = .ok (.int k (mxv x y)) w := run_max_int2 ..
theorem run_mn (ts : Array TypeId) (t : TypeId) (k k' : IntKind) (x y : Int) (w : World) : (Builtin.min_ ts t #[.int k x, .int k' y]).run Tryz.prog w = .ok (.int k (mnv x y)) w := run_min_int2 ..

def validB (t : Int) : Bool := decide (0 ≤ t ∧ t ≤ 4611686018427387903)
def laneB (n : Int) : Bool := decide (0 ≤ n ∧ n < 16)
theorem validB_iff {t : Int} : validB t = true ↔ 0 ≤ t ∧ t ≤ 4611686018427387903 := by unfold validB; exact decide_eq_true_iff
theorem laneB_iff {n : Int} : laneB n = true ↔ 0 ≤ n ∧ n < 16 := by unfold laneB; exact decide_eq_true_iff
theorem validB_no {t : Int} (h : ¬ 0 ≤ t) : false = validB t := by unfold validB; symm; rw [decide_eq_false_iff_not]; omega
theorem validB_yes {t : Int} (h : 0 ≤ t) : decide (t ≤ 4611686018427387903) = validB t := by unfold validB; simp [h]
theorem laneB_no {n : Int} (h : ¬ 0 ≤ n) : false = laneB n := by unfold laneB; symm; rw [decide_eq_false_iff_not]; omega
theorem laneB_yes {n : Int} (h : 0 ≤ n) : decide (n < 16) = laneB n := by unfold laneB; simp [h]

set_option maxHeartbeats 400000 in
theorem valid_any (t : Int) (w : World) : Calls Tryz.prog 21 #[.int .i64 t] w fun e w' => e = .returned (.bool (validB t)) ∧ w = w' := by
  by_cases h : 0 ≤ t
  · go_enter Tryz.func21, Tryz.ntmps21
    go_wp2
    go_ret
    exact ⟨ret_bool (validB_yes h), rfl⟩
  · go_enter Tryz.func21, Tryz.ntmps21
    go_wp2
    go_ret
    exact ⟨ret_bool (validB_no (by omega)), rfl⟩

set_option maxHeartbeats 400000 in
theorem evlane_any (t : Int) (w : World) : Calls Tryz.prog 56 #[.int .i64 t] w fun e w' => e = .returned (.bool (laneB t)) ∧ w = w' := by
  by_cases h : 0 ≤ t
  · go_enter Tryz.func56, Tryz.ntmps56
    go_wp2
    go_ret
    exact ⟨ret_bool (laneB_yes h), rfl⟩
  · go_enter Tryz.func56, Tryz.ntmps56
    go_wp2
    go_ret
    exact ⟨ret_bool (laneB_no (by omega)), rfl⟩

set_option maxHeartbeats 400000 in
theorem vmlane_any (t : Int) (w : World) : Calls Tryz.prog 20 #[.int .i64 t] w fun e w' => e = .returned (.bool (laneB t)) ∧ w = w' := by
  by_cases h : 0 ≤ t
  · go_enter Tryz.func20, Tryz.ntmps20
    go_wp2
    go_ret
    exact ⟨ret_bool (laneB_yes h), rfl⟩
  · go_enter Tryz.func20, Tryz.ntmps20
    go_wp2
    go_ret
    exact ⟨ret_bool (laneB_no (by omega)), rfl⟩

/-- vtime.Add: what is answered, and the number of its error. -/
def addE (t d : Int) : Int := if validB t = true ∧ 0 ≤ d then (if d > 4611686018427387903 - t then 10 else 0) else 1
def addV (t d : Int) : Int := if validB t = true ∧ 0 ≤ d ∧ d ≤ 4611686018427387903 - t then t + d else 0
theorem ret_two {a b c d : Int} (h : a = c) (h' : b = d) : Ending.returned (.tuple #[.int .i64 a, .int .i64 b]) = .returned (.tuple #[.int .i64 c, .int .i64 d]) := by rw [h, h']
set_option maxHeartbeats 400000 in
theorem add_any (t d : Int) (w : World) : Calls Tryz.prog 91 #[.int .i64 t, .int .i64 d] w fun e w' => e = .returned (.tuple #[.int .i64 (addV t d), .int .i64 (addE t d)]) ∧ w = w' := by
  cases hv : validB t
  · go_enter Tryz.func91, Tryz.ntmps91
    go_wp2_with fail
    refine (valid_any _ _).mono ?_
    rintro e w' ⟨rfl, rfl⟩
    go_wp2
    go_ret2
    exact ⟨ret_two (by unfold addV; rw [if_neg (by simp [hv])]) (by unfold addE; rw [if_neg (by simp [hv])]), rfl⟩
  · obtain ⟨b1, b2⟩ := validB_iff.1 hv
    by_cases h : 0 ≤ d
    · by_cases h2 : 4611686018427387903 - t < d
      · go_enter Tryz.func91, Tryz.ntmps91
        go_wp2_with fail
        refine (valid_any _ _).mono ?_
        rintro e w' ⟨rfl, rfl⟩
        go_wp2
        go_ret2
        exact ⟨ret_two (by unfold addV; rw [if_neg (by omega)]) (by unfold addE; rw [if_pos ⟨hv, h⟩, if_pos (by omega)]), rfl⟩
      · go_enter Tryz.func91, Tryz.ntmps91
        go_wp2_with fail
        refine (valid_any _ _).mono ?_
        rintro e w' ⟨rfl, rfl⟩
        go_wp2
        go_ret2
        exact ⟨ret_two (by unfold addV; rw [if_pos ⟨hv, h, by omega⟩]) (by unfold addE; rw [if_pos ⟨hv, h⟩, if_neg (by omega)]), rfl⟩
    · go_enter Tryz.func91, Tryz.ntmps91
      go_wp2_with fail
      refine (valid_any _ _).mono ?_
      rintro e w' ⟨rfl, rfl⟩
      go_wp2
      go_ret2
      exact ⟨ret_two (by unfold addV; rw [if_neg (by omega)]) (by unfold addE; rw [if_neg (by omega)]), rfl⟩

set_option maxHeartbeats 400000 in
theorem truth_any (b : Bool) (w : World) : Calls Tryz.prog 90 #[.bool b] w fun e w' => e = .returned (.int .i64 (if b then 1 else 0)) ∧ w = w' := by
  cases b
  · go_enter Tryz.func90, Tryz.ntmps90
    go_wp2
    go_ret
    exact ⟨rfl, rfl⟩
  · go_enter Tryz.func90, Tryz.ntmps90
    go_wp2
    go_ret
    exact ⟨rfl, rfl⟩

/-- vm.quotient. -/
def quoV (b c : Int) : Int := if c = 0 then 0 else wrap64 (b.tdiv c)
def remV (b c : Int) : Int := if c = 0 then 0 else b.tmod c
theorem quoV_of {b c : Int} (h : ¬ c = 0) : wrap64 (b.tdiv c) = quoV b c := by unfold quoV; rw [if_neg h]
theorem remV_of {b c : Int} (h : ¬ c = 0) : b.tmod c = remV b c := by unfold remV; rw [if_neg h]
set_option maxHeartbeats 400000 in
theorem quotient_any (b c : Int) (w : World) : Calls Tryz.prog 89 #[.int .i64 b, .int .i64 c] w fun e w' => e = .returned (.tuple #[.int .i64 (quoV b c), .int .i64 (remV b c)]) ∧ Up w w' := by
  cases hc : (c == 0)
  · have hc0 : ¬ c = 0 := by simpa using hc
    cases hc1 : (c == -1)
    · go_enter Tryz.func89, Tryz.ntmps89
      go_wp2
      go_quiet (fail)
      go_wp2
      go_ret2
      exact ⟨ret_two (quoV_of hc0) (remV_of hc0), up_drewN _⟩
    · cases hc2 : (b == -9223372036854775808)
      · go_enter Tryz.func89, Tryz.ntmps89
        go_wp2
        go_quiet (fail)
        go_wp2
        go_ret2
        exact ⟨ret_two (quoV_of hc0) (remV_of hc0), up_drewN _⟩
      · have e1 : c = -1 := by simpa using hc1
        have e2 : b = -9223372036854775808 := by simpa using hc2
        go_enter Tryz.func89, Tryz.ntmps89
        go_wp2
        go_ret2
        exact ⟨ret_two (by rw [show c = -1 by simpa using hc1, show b = -9223372036854775808 by simpa using hc2]; decide +kernel) (by rw [show c = -1 by simpa using hc1, show b = -9223372036854775808 by simpa using hc2]; decide +kernel), Up.refl _⟩
  · go_enter Tryz.func89, Tryz.ntmps89
    go_wp2
    go_ret2
    exact ⟨ret_two (by rw [show c = 0 by simpa using hc]; rfl) (by rw [show c = 0 by simpa using hc]; rfl), Up.refl _⟩

/-- event.Check: may a message be? -/
def chkB (m : Msg) : Bool := validB m.t && (laneB m.f || m.f == -1) && laneB m.to && decide (0 ≤ mnv m.s m.u)
def chkv (m : Msg) : Int := if chkB m then 0 else 1
theorem chkv_yes {m : Msg} (h : chkB m = true) : 0 = chkv m := by unfold chkv; rw [if_pos h]
theorem chkv_no {m : Msg} (h : chkB m = false) : 1 = chkv m := by unfold chkv; rw [h]; rfl
set_option maxHeartbeats 1000000 in
theorem evcheck_any (m : Msg) (w : World) : Calls Tryz.prog 45 #[m.val] w fun e w' => e = .returned (.int .i64 (chkv m)) ∧ Up w w' := by
  obtain ⟨t, f, s, to, v, u, an⟩ := m
  have hmn := run_mn
  cases h1 : validB t
  · have hb : chkB ⟨t, f, s, to, v, u, an⟩ = false := by simp [chkB, h1]
    go_enter Tryz.func45, Tryz.ntmps45
    go_wp2_with fail
    refine (valid_any _ _).mono ?_
    rintro e w' ⟨rfl, rfl⟩
    go_wp2
    go_ret
    exact ⟨ret_int (chkv_no hb), (Up.refl _).alloc _ _⟩
  · cases h2 : (laneB f || f == -1)
    · have hb : chkB ⟨t, f, s, to, v, u, an⟩ = false := by simp [chkB, h1, h2]
      obtain ⟨h3, h4⟩ : laneB f = false ∧ (f == -1) = false := by simpa using h2
      have HB := Lib.hid hb
      clear hb h2
      go_enter Tryz.func45, Tryz.ntmps45
      go_wp2_with fail
      refine (valid_any _ _).mono ?_
      rintro e w' ⟨rfl, rfl⟩
      go_wp2_with fail
      refine (evlane_any _ _).mono ?_
      rintro e w' ⟨rfl, rfl⟩
      go_wp2
      go_ret
      exact ⟨ret_int (chkv_no HB.out), (Up.refl _).alloc _ _⟩
    · have two : laneB f = true ∨ laneB f = false ∧ (f == -1) = true := by
        cases h3 : laneB f
        · rw [h3] at h2; exact Or.inr ⟨rfl, by simpa using h2⟩
        · exact Or.inl rfl
      cases h5 : laneB to
      · have hb : chkB ⟨t, f, s, to, v, u, an⟩ = false := by simp [chkB, h5]
        have HB := Lib.hid hb
        clear hb h2
        rcases two with h3 | ⟨h3, h4⟩
        all_goals
          go_enter Tryz.func45, Tryz.ntmps45
          go_wp2_with fail
          refine (valid_any _ _).mono ?_
          rintro e w' ⟨rfl, rfl⟩
          go_wp2_with fail
          refine (evlane_any _ _).mono ?_
          rintro e w' ⟨rfl, rfl⟩
          go_wp2_with fail
          refine (evlane_any _ _).mono ?_
          rintro e w' ⟨rfl, rfl⟩
          go_wp2
          go_ret
          exact ⟨ret_int (chkv_no HB.out), (Up.refl _).alloc _ _⟩
      · cases h6 : decide (0 ≤ mnv s u)
        · have hb : chkB ⟨t, f, s, to, v, u, an⟩ = false := by simp [chkB, h6]
          have HB := Lib.hid hb
          clear hb h2
          rcases two with h3 | ⟨h3, h4⟩
          all_goals
            go_enter Tryz.func45, Tryz.ntmps45
            go_wp2_with fail
            refine (valid_any _ _).mono ?_
            rintro e w' ⟨rfl, rfl⟩
            go_wp2_with fail
            refine (evlane_any _ _).mono ?_
            rintro e w' ⟨rfl, rfl⟩
            go_wp2_with fail
            refine (evlane_any _ _).mono ?_
            rintro e w' ⟨rfl, rfl⟩
            go_wp2
            go_ret
            exact ⟨ret_int (chkv_no HB.out), (Up.refl _).alloc _ _⟩
        · have hb : chkB ⟨t, f, s, to, v, u, an⟩ = true := by simp [chkB, h1, h5, h6]; simpa using h2
          have HB := Lib.hid hb
          clear hb h2
          rcases two with h3 | ⟨h3, h4⟩
          all_goals
            go_enter Tryz.func45, Tryz.ntmps45
            go_wp2_with fail
            refine (valid_any _ _).mono ?_
            rintro e w' ⟨rfl, rfl⟩
            go_wp2_with fail
            refine (evlane_any _ _).mono ?_
            rintro e w' ⟨rfl, rfl⟩
            go_wp2_with fail
            refine (evlane_any _ _).mono ?_
            rintro e w' ⟨rfl, rfl⟩
            go_wp2
            go_ret
            exact ⟨ret_int (chkv_yes HB.out), (Up.refl _).alloc _ _⟩
end Go.Proofs.YtalmjdlcogdpmaaGreatDoor

namespace Go.Proofs.YtalmjdlcogdpmaaGreatDoor
open Go.RowKit

/-- May a number be of a kind, in a program of so many? -/
def rightB (n kind many : Int) : Bool :=
  if kind = 110 then decide (-2147483648 ≤ n ∧ n ≤ 2147483647) else if kind = 112 then decide (0 ≤ n ∧ n ≤ many) else if kind = 114 then decide (0 ≤ n ∧ n ≤ 15) else decide (0 ≤ n ∧ n ≤ 0)

set_option maxHeartbeats 400000 in
theorem right_110 (n many : Int) (w : World) : Calls Tryz.prog 58 #[.int .i64 n, .int .u8 110, .int .i64 many] w fun e w' => e = .returned (.bool (rightB n 110 many)) ∧ w = w' := by
  by_cases h : (-2147483648) ≤ n
  · go_enter Tryz.func58, Tryz.ntmps58
    go_wp2
    go_ret
    exact ⟨ret_bool (by simp [rightB, h]), rfl⟩
  · go_enter Tryz.func58, Tryz.ntmps58
    go_wp2
    go_ret
    exact ⟨ret_bool (by simp [rightB]; omega), rfl⟩

set_option maxHeartbeats 400000 in
theorem right_112 (n many : Int) (w : World) : Calls Tryz.prog 58 #[.int .i64 n, .int .u8 112, .int .i64 many] w fun e w' => e = .returned (.bool (rightB n 112 many)) ∧ w = w' := by
  by_cases h : 0 ≤ n
  · go_enter Tryz.func58, Tryz.ntmps58
    go_wp2
    go_ret
    exact ⟨ret_bool (by simp [rightB, h]), rfl⟩
  · go_enter Tryz.func58, Tryz.ntmps58
    go_wp2
    go_ret
    exact ⟨ret_bool (by simp [rightB]; omega), rfl⟩

set_option maxHeartbeats 400000 in
theorem right_114 (n many : Int) (w : World) : Calls Tryz.prog 58 #[.int .i64 n, .int .u8 114, .int .i64 many] w fun e w' => e = .returned (.bool (rightB n 114 many)) ∧ w = w' := by
  by_cases h : 0 ≤ n
  · go_enter Tryz.func58, Tryz.ntmps58
    go_wp2
    go_ret
    exact ⟨ret_bool (by simp [rightB, h]), rfl⟩
  · go_enter Tryz.func58, Tryz.ntmps58
    go_wp2
    go_ret
    exact ⟨ret_bool (by simp [rightB]; omega), rfl⟩

set_option maxHeartbeats 400000 in
theorem right_45 (n many : Int) (w : World) : Calls Tryz.prog 58 #[.int .i64 n, .int .u8 45, .int .i64 many] w fun e w' => e = .returned (.bool (rightB n 45 many)) ∧ w = w' := by
  by_cases h : 0 ≤ n
  · go_enter Tryz.func58, Tryz.ntmps58
    go_wp2
    go_ret
    exact ⟨ret_bool (by simp [rightB, h]), rfl⟩
  · go_enter Tryz.func58, Tryz.ntmps58
    go_wp2
    go_ret
    exact ⟨ret_bool (by simp [rightB]; omega), rfl⟩


abbrev shapesV : Value := .agg #[.string ⟨#[45, 45, 45]⟩, .string ⟨#[114, 110, 45]⟩, .string ⟨#[114, 114, 45]⟩, .string ⟨#[114, 114, 114]⟩, .string ⟨#[114, 114, 114]⟩, .string ⟨#[114, 114, 114]⟩, .string ⟨#[114, 114, 114]⟩, .string ⟨#[114, 114, 114]⟩, .string ⟨#[114, 114, 114]⟩, .string ⟨#[114, 114, 114]⟩, .string ⟨#[112, 45, 45]⟩, .string ⟨#[114, 112, 45]⟩, .string ⟨#[114, 114, 114]⟩, .string ⟨#[114, 114, 45]⟩, .string ⟨#[114, 45, 45]⟩, .string ⟨#[114, 45, 45]⟩, .string ⟨#[114, 45, 45]⟩]
/-- What an instruction's three numbers are. -/
def kindsOf : Nat → Int × Int × Int
  | 0 => (45, 45, 45)
  | 1 => (114, 110, 45)
  | 2 => (114, 114, 45)
  | 3 => (114, 114, 114)
  | 4 => (114, 114, 114)
  | 5 => (114, 114, 114)
  | 6 => (114, 114, 114)
  | 7 => (114, 114, 114)
  | 8 => (114, 114, 114)
  | 9 => (114, 114, 114)
  | 10 => (112, 45, 45)
  | 11 => (114, 112, 45)
  | 12 => (114, 114, 114)
  | 13 => (114, 114, 45)
  | 14 => (114, 45, 45)
  | 15 => (114, 45, 45)
  | 16 => (114, 45, 45)
  | _ => (0, 0, 0)
theorem right_any (n kind many : Int) (w : World) (hk : kind = 110 ∨ kind = 112 ∨ kind = 114 ∨ kind = 45) : Calls Tryz.prog 58 #[.int .i64 n, .int .u8 kind, .int .i64 many] w fun e w' => e = .returned (.bool (rightB n kind many)) ∧ w = w' := by
  rcases hk with rfl | rfl | rfl | rfl
  · exact right_110 n many w
  · exact right_112 n many w
  · exact right_114 n many w
  · exact right_45 n many w
/-- code.may. -/
def mayB (op a b c many : Int) : Bool :=
  decide (0 ≤ op ∧ op < 17) && (rightB a (kindsOf op.toNat).1 many && (rightB b (kindsOf op.toNat).2.1 many && rightB c (kindsOf op.toNat).2.2 many))

set_option maxHeartbeats 400000 in
theorem shapes_any (w : World) : Calls Tryz.prog 57 #[] w fun e w' => e = .returned shapesV ∧ Up w w' := by
  go_enter Tryz.func57, Tryz.ntmps57
  go_wp2
  refine bodyPost_ret (v := shapesV) (by simp [results, Tryz.results57, go_sem]) rfl ⟨rfl, ?_⟩
  exact (Up.refl _).alloc _ _

end Go.Proofs.YtalmjdlcogdpmaaGreatDoor
