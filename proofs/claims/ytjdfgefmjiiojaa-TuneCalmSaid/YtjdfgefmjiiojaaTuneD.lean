/- The contract of tune.Turn: what the four controllers make of a clamped setting and of bounded statistics. -/
import Derived.Test.YtjdfgefmjiiojaaTuneC
import Derived.Laws.EntriesVeiled
namespace Go.Proofs.Ytjdfgefmjiiojaa
open Go.RowKit

/-- What Turn holds of memory: the setting's box, the statistics' box, the four pointers' row, the result's cells. -/
structure TI (w : World) (C : Nat) (m e c r q d u h l : Int) (wr : World) : Prop where
  up : Up w wr
  past : w.heap.size + 1 + 1 < C
  s0 : wr.cell? ⟨w.heap.size, 0, none⟩ = some (.int .i64 m)
  s1 : wr.cell? ⟨w.heap.size, 1, none⟩ = some (.int .i64 e)
  s2 : wr.cell? ⟨w.heap.size, 2, none⟩ = some (.int .i64 c)
  s3 : wr.cell? ⟨w.heap.size, 3, none⟩ = some (.int .i64 r)
  s4 : wr.cell? ⟨w.heap.size, 4, none⟩ = some (.int .i64 q)
  t0 : wr.cell? ⟨w.heap.size + 1, 0, none⟩ = some (.int .i64 d)
  t1 : wr.cell? ⟨w.heap.size + 1, 1, none⟩ = some (.int .i64 u)
  t2 : wr.cell? ⟨w.heap.size + 1, 2, none⟩ = some (.int .i64 h)
  t3 : wr.cell? ⟨w.heap.size + 1, 3, none⟩ = some (.int .i64 l)
  p0 : wr.cell? ⟨C, 0, none⟩ = some (.pointer (some ⟨w.heap.size + 1, 0, none⟩))
  p1 : wr.cell? ⟨C, 1, none⟩ = some (.pointer (some ⟨w.heap.size + 1, 1, none⟩))
  p2 : wr.cell? ⟨C, 2, none⟩ = some (.pointer (some ⟨w.heap.size + 1, 2, none⟩))
  p3 : wr.cell? ⟨C, 3, none⟩ = some (.pointer (some ⟨w.heap.size + 1, 3, none⟩))
  r0 : wr.cell? ⟨w.heap.size + 1 + 1, 0, none⟩ = some (.int .i64 0)
  r1 : wr.cell? ⟨w.heap.size + 1 + 1, 1, none⟩ = some (.int .i64 0)
  r2 : wr.cell? ⟨w.heap.size + 1 + 1, 2, none⟩ = some (.int .i64 0)
  r3 : wr.cell? ⟨w.heap.size + 1 + 1, 3, none⟩ = some (.int .i64 0)
  r4 : wr.cell? ⟨w.heap.size + 1 + 1, 4, none⟩ = some (.int .i64 0)
theorem TI.later {w : World} {C : Nat} {m e c r q d u h l : Int} {wr : World} (k : TI w C m e c r q d u h l wr) {wn : World} (g : Up wr wn) : TI w C m e c r q d u h l wn :=
  ⟨k.up.trans g, k.past, cell_up g k.s0, cell_up g k.s1, cell_up g k.s2, cell_up g k.s3, cell_up g k.s4, cell_up g k.t0, cell_up g k.t1, cell_up g k.t2, cell_up g k.t3, cell_up g k.p0, cell_up g k.p1, cell_up g k.p2, cell_up g k.p3, cell_up g k.r0, cell_up g k.r1, cell_up g k.r2, cell_up g k.r3, cell_up g k.r4⟩
theorem TI.setS0 {w : World} {C : Nat} {m e c r q d u h l : Int} {wr : World} (k : TI w C m e c r q d u h l wr) (x : Int) : TI w C x e c r q d u h l (wr.setCell ⟨w.heap.size, 0, none⟩ (.int .i64 x)) := by
  have hp := k.past
  exact ⟨k.up.setCell (by simp; try omega) _, hp, World.cell?_setCell_same _ _ _ k.s0, (cell_off (by decide)).trans k.s1, (cell_off (by decide)).trans k.s2, (cell_off (by decide)).trans k.s3, (cell_off (by decide)).trans k.s4, (cell_other (by simp; try omega)).trans k.t0, (cell_other (by simp; try omega)).trans k.t1, (cell_other (by simp; try omega)).trans k.t2, (cell_other (by simp; try omega)).trans k.t3, (cell_other (by simp; try omega)).trans k.p0, (cell_other (by simp; try omega)).trans k.p1, (cell_other (by simp; try omega)).trans k.p2, (cell_other (by simp; try omega)).trans k.p3, (cell_other (by simp; try omega)).trans k.r0, (cell_other (by simp; try omega)).trans k.r1, (cell_other (by simp; try omega)).trans k.r2, (cell_other (by simp; try omega)).trans k.r3, (cell_other (by simp; try omega)).trans k.r4⟩
theorem TI.setS1 {w : World} {C : Nat} {m e c r q d u h l : Int} {wr : World} (k : TI w C m e c r q d u h l wr) (x : Int) : TI w C m x c r q d u h l (wr.setCell ⟨w.heap.size, 1, none⟩ (.int .i64 x)) := by
  have hp := k.past
  exact ⟨k.up.setCell (by simp; try omega) _, hp, (cell_off (by decide)).trans k.s0, World.cell?_setCell_same _ _ _ k.s1, (cell_off (by decide)).trans k.s2, (cell_off (by decide)).trans k.s3, (cell_off (by decide)).trans k.s4, (cell_other (by simp; try omega)).trans k.t0, (cell_other (by simp; try omega)).trans k.t1, (cell_other (by simp; try omega)).trans k.t2, (cell_other (by simp; try omega)).trans k.t3, (cell_other (by simp; try omega)).trans k.p0, (cell_other (by simp; try omega)).trans k.p1, (cell_other (by simp; try omega)).trans k.p2, (cell_other (by simp; try omega)).trans k.p3, (cell_other (by simp; try omega)).trans k.r0, (cell_other (by simp; try omega)).trans k.r1, (cell_other (by simp; try omega)).trans k.r2, (cell_other (by simp; try omega)).trans k.r3, (cell_other (by simp; try omega)).trans k.r4⟩
theorem TI.setS2 {w : World} {C : Nat} {m e c r q d u h l : Int} {wr : World} (k : TI w C m e c r q d u h l wr) (x : Int) : TI w C m e x r q d u h l (wr.setCell ⟨w.heap.size, 2, none⟩ (.int .i64 x)) := by
  have hp := k.past
  exact ⟨k.up.setCell (by simp; try omega) _, hp, (cell_off (by decide)).trans k.s0, (cell_off (by decide)).trans k.s1, World.cell?_setCell_same _ _ _ k.s2, (cell_off (by decide)).trans k.s3, (cell_off (by decide)).trans k.s4, (cell_other (by simp; try omega)).trans k.t0, (cell_other (by simp; try omega)).trans k.t1, (cell_other (by simp; try omega)).trans k.t2, (cell_other (by simp; try omega)).trans k.t3, (cell_other (by simp; try omega)).trans k.p0, (cell_other (by simp; try omega)).trans k.p1, (cell_other (by simp; try omega)).trans k.p2, (cell_other (by simp; try omega)).trans k.p3, (cell_other (by simp; try omega)).trans k.r0, (cell_other (by simp; try omega)).trans k.r1, (cell_other (by simp; try omega)).trans k.r2, (cell_other (by simp; try omega)).trans k.r3, (cell_other (by simp; try omega)).trans k.r4⟩
theorem TI.setS3 {w : World} {C : Nat} {m e c r q d u h l : Int} {wr : World} (k : TI w C m e c r q d u h l wr) (x : Int) : TI w C m e c x q d u h l (wr.setCell ⟨w.heap.size, 3, none⟩ (.int .i64 x)) := by
  have hp := k.past
  exact ⟨k.up.setCell (by simp; try omega) _, hp, (cell_off (by decide)).trans k.s0, (cell_off (by decide)).trans k.s1, (cell_off (by decide)).trans k.s2, World.cell?_setCell_same _ _ _ k.s3, (cell_off (by decide)).trans k.s4, (cell_other (by simp; try omega)).trans k.t0, (cell_other (by simp; try omega)).trans k.t1, (cell_other (by simp; try omega)).trans k.t2, (cell_other (by simp; try omega)).trans k.t3, (cell_other (by simp; try omega)).trans k.p0, (cell_other (by simp; try omega)).trans k.p1, (cell_other (by simp; try omega)).trans k.p2, (cell_other (by simp; try omega)).trans k.p3, (cell_other (by simp; try omega)).trans k.r0, (cell_other (by simp; try omega)).trans k.r1, (cell_other (by simp; try omega)).trans k.r2, (cell_other (by simp; try omega)).trans k.r3, (cell_other (by simp; try omega)).trans k.r4⟩
theorem TI.setS4 {w : World} {C : Nat} {m e c r q d u h l : Int} {wr : World} (k : TI w C m e c r q d u h l wr) (x : Int) : TI w C m e c r x d u h l (wr.setCell ⟨w.heap.size, 4, none⟩ (.int .i64 x)) := by
  have hp := k.past
  exact ⟨k.up.setCell (by simp; try omega) _, hp, (cell_off (by decide)).trans k.s0, (cell_off (by decide)).trans k.s1, (cell_off (by decide)).trans k.s2, (cell_off (by decide)).trans k.s3, World.cell?_setCell_same _ _ _ k.s4, (cell_other (by simp; try omega)).trans k.t0, (cell_other (by simp; try omega)).trans k.t1, (cell_other (by simp; try omega)).trans k.t2, (cell_other (by simp; try omega)).trans k.t3, (cell_other (by simp; try omega)).trans k.p0, (cell_other (by simp; try omega)).trans k.p1, (cell_other (by simp; try omega)).trans k.p2, (cell_other (by simp; try omega)).trans k.p3, (cell_other (by simp; try omega)).trans k.r0, (cell_other (by simp; try omega)).trans k.r1, (cell_other (by simp; try omega)).trans k.r2, (cell_other (by simp; try omega)).trans k.r3, (cell_other (by simp; try omega)).trans k.r4⟩
theorem TI.setT0 {w : World} {C : Nat} {m e c r q d u h l : Int} {wr : World} (k : TI w C m e c r q d u h l wr) (x : Int) : TI w C m e c r q x u h l (wr.setCell ⟨w.heap.size + 1, 0, none⟩ (.int .i64 x)) := by
  have hp := k.past
  exact ⟨k.up.setCell (by simp; try omega) _, hp, (cell_other (by simp; try omega)).trans k.s0, (cell_other (by simp; try omega)).trans k.s1, (cell_other (by simp; try omega)).trans k.s2, (cell_other (by simp; try omega)).trans k.s3, (cell_other (by simp; try omega)).trans k.s4, World.cell?_setCell_same _ _ _ k.t0, (cell_off (by decide)).trans k.t1, (cell_off (by decide)).trans k.t2, (cell_off (by decide)).trans k.t3, (cell_other (by simp; try omega)).trans k.p0, (cell_other (by simp; try omega)).trans k.p1, (cell_other (by simp; try omega)).trans k.p2, (cell_other (by simp; try omega)).trans k.p3, (cell_other (by simp; try omega)).trans k.r0, (cell_other (by simp; try omega)).trans k.r1, (cell_other (by simp; try omega)).trans k.r2, (cell_other (by simp; try omega)).trans k.r3, (cell_other (by simp; try omega)).trans k.r4⟩
theorem TI.setT1 {w : World} {C : Nat} {m e c r q d u h l : Int} {wr : World} (k : TI w C m e c r q d u h l wr) (x : Int) : TI w C m e c r q d x h l (wr.setCell ⟨w.heap.size + 1, 1, none⟩ (.int .i64 x)) := by
  have hp := k.past
  exact ⟨k.up.setCell (by simp; try omega) _, hp, (cell_other (by simp; try omega)).trans k.s0, (cell_other (by simp; try omega)).trans k.s1, (cell_other (by simp; try omega)).trans k.s2, (cell_other (by simp; try omega)).trans k.s3, (cell_other (by simp; try omega)).trans k.s4, (cell_off (by decide)).trans k.t0, World.cell?_setCell_same _ _ _ k.t1, (cell_off (by decide)).trans k.t2, (cell_off (by decide)).trans k.t3, (cell_other (by simp; try omega)).trans k.p0, (cell_other (by simp; try omega)).trans k.p1, (cell_other (by simp; try omega)).trans k.p2, (cell_other (by simp; try omega)).trans k.p3, (cell_other (by simp; try omega)).trans k.r0, (cell_other (by simp; try omega)).trans k.r1, (cell_other (by simp; try omega)).trans k.r2, (cell_other (by simp; try omega)).trans k.r3, (cell_other (by simp; try omega)).trans k.r4⟩
theorem TI.setT2 {w : World} {C : Nat} {m e c r q d u h l : Int} {wr : World} (k : TI w C m e c r q d u h l wr) (x : Int) : TI w C m e c r q d u x l (wr.setCell ⟨w.heap.size + 1, 2, none⟩ (.int .i64 x)) := by
  have hp := k.past
  exact ⟨k.up.setCell (by simp; try omega) _, hp, (cell_other (by simp; try omega)).trans k.s0, (cell_other (by simp; try omega)).trans k.s1, (cell_other (by simp; try omega)).trans k.s2, (cell_other (by simp; try omega)).trans k.s3, (cell_other (by simp; try omega)).trans k.s4, (cell_off (by decide)).trans k.t0, (cell_off (by decide)).trans k.t1, World.cell?_setCell_same _ _ _ k.t2, (cell_off (by decide)).trans k.t3, (cell_other (by simp; try omega)).trans k.p0, (cell_other (by simp; try omega)).trans k.p1, (cell_other (by simp; try omega)).trans k.p2, (cell_other (by simp; try omega)).trans k.p3, (cell_other (by simp; try omega)).trans k.r0, (cell_other (by simp; try omega)).trans k.r1, (cell_other (by simp; try omega)).trans k.r2, (cell_other (by simp; try omega)).trans k.r3, (cell_other (by simp; try omega)).trans k.r4⟩
theorem TI.setT3 {w : World} {C : Nat} {m e c r q d u h l : Int} {wr : World} (k : TI w C m e c r q d u h l wr) (x : Int) : TI w C m e c r q d u h x (wr.setCell ⟨w.heap.size + 1, 3, none⟩ (.int .i64 x)) := by
  have hp := k.past
  exact ⟨k.up.setCell (by simp; try omega) _, hp, (cell_other (by simp; try omega)).trans k.s0, (cell_other (by simp; try omega)).trans k.s1, (cell_other (by simp; try omega)).trans k.s2, (cell_other (by simp; try omega)).trans k.s3, (cell_other (by simp; try omega)).trans k.s4, (cell_off (by decide)).trans k.t0, (cell_off (by decide)).trans k.t1, (cell_off (by decide)).trans k.t2, World.cell?_setCell_same _ _ _ k.t3, (cell_other (by simp; try omega)).trans k.p0, (cell_other (by simp; try omega)).trans k.p1, (cell_other (by simp; try omega)).trans k.p2, (cell_other (by simp; try omega)).trans k.p3, (cell_other (by simp; try omega)).trans k.r0, (cell_other (by simp; try omega)).trans k.r1, (cell_other (by simp; try omega)).trans k.r2, (cell_other (by simp; try omega)).trans k.r3, (cell_other (by simp; try omega)).trans k.r4⟩
theorem up_on {w wr wn : World} {m e c r q : Int} (h : Up w wr) (g : On w.heap.size wr wn m e c r q) : Up w wn :=
  ⟨⟨g.grown.os.trans h.1.os, g.grown.tape.trans h.1.tape, g.grown.output.trans h.1.output, Nat.le_trans h.1.size g.grown.size,
    fun i hi => (g.grown.block i (Nat.lt_of_lt_of_le hi h.1.size) (by simp; omega)).trans (h.1.block i hi)⟩, fun a => (g.marks a).trans (h.2 a)⟩
theorem TI.turned {w : World} {C : Nat} {m e c r q d u h l : Int} {wr : World} (k : TI w C m e c r q d u h l wr) {wn : World} {m' e' c' r' q' : Int} (g : On w.heap.size wr wn m' e' c' r' q') : TI w C m' e' c' r' q' d u h l wn := by
  have hp := k.past
  exact ⟨up_on k.up g, hp, g.c0, g.c1, g.c2, g.c3, g.c4, g.grown.cell k.t0 (by simp; try omega), g.grown.cell k.t1 (by simp; try omega), g.grown.cell k.t2 (by simp; try omega), g.grown.cell k.t3 (by simp; try omega), g.grown.cell k.p0 (by simp; try omega), g.grown.cell k.p1 (by simp; try omega), g.grown.cell k.p2 (by simp; try omega), g.grown.cell k.p3 (by simp; try omega), g.grown.cell k.r0 (by simp; try omega), g.grown.cell k.r1 (by simp; try omega), g.grown.cell k.r2 (by simp; try omega), g.grown.cell k.r3 (by simp; try omega), g.grown.cell k.r4 (by simp; try omega)⟩
theorem TI.free {w : World} {C : Nat} {m e c r q d u h l : Int} {wr : World} (k : TI w C m e c r q d u h l wr) (b i : Nat) (hb : w.heap.size ≤ b) : wr.frozen? ⟨b, i, none⟩ = false := (k.up.2 _).trans (frozen_new _ _ hb)
theorem TI.set {w : World} {C : Nat} {m e c r q d u h l : Int} {wr : World} (k : TI w C m e c r q d u h l wr) : Set5 w.heap.size wr m e c r q := ⟨k.s0, k.s1, k.s2, k.s3, k.s4, fun i => k.free _ i (Nat.le_refl _)⟩

/-- The start of Turn's loops. -/
theorem TI.start {w w1 : World} {m e c r q d u h l m' e' c' r' q' : Int}
    (h1 : Up (((w.alloc (.cells #[.int .i64 m, .int .i64 e, .int .i64 c, .int .i64 r, .int .i64 q] 35)).alloc (.cells #[.int .i64 d, .int .i64 u, .int .i64 h, .int .i64 l] 44)).alloc (.cells #[.int .i64 0, .int .i64 0, .int .i64 0, .int .i64 0, .int .i64 0] 35)) w1) :
    TI w w1.heap.size m' e' c' r' q' d u h l ((((((w1.setCell ⟨w.heap.size, 0, none⟩ (.int .i64 m')).setCell ⟨w.heap.size, 1, none⟩ (.int .i64 e')).setCell ⟨w.heap.size, 2, none⟩ (.int .i64 c')).setCell ⟨w.heap.size, 3, none⟩ (.int .i64 r')).setCell ⟨w.heap.size, 4, none⟩ (.int .i64 q')).alloc
      (.cells #[.pointer (some ⟨w.heap.size + 1, 0, none⟩), .pointer (some ⟨w.heap.size + 1, 1, none⟩), .pointer (some ⟨w.heap.size + 1, 2, none⟩), .pointer (some ⟨w.heap.size + 1, 3, none⟩)] 61)) := by
  have hz : w.heap.size + 1 + 1 < w1.heap.size := by have := h1.1.size; simp at this; omega
  have hu : Up w w1 := ((((Up.refl w).alloc _ _).alloc _ _).alloc _ _).trans h1
  obtain ⟨hc, -, -⟩ := h1.facts
  have s : ∀ i, i < 5 → ∃ v, w1.cell? ⟨w.heap.size, i, none⟩ = some v := by
    intro i hi
    rw [hc _ _ (by simp; omega)]
    rcases (show i = 0 ∨ i = 1 ∨ i = 2 ∨ i = 3 ∨ i = 4 by omega) with rfl | rfl | rfl | rfl | rfl <;> exact ⟨_, by simp [go_sem]; rfl⟩
  obtain ⟨v0, s0⟩ := s 0 (by omega)
  obtain ⟨v1, s1⟩ := s 1 (by omega)
  obtain ⟨v2, s2⟩ := s 2 (by omega)
  obtain ⟨v3, s3⟩ := s 3 (by omega)
  obtain ⟨v4, s4⟩ := s 4 (by omega)
  have t0 : w1.cell? ⟨w.heap.size + 1, 0, none⟩ = some (.int .i64 d) := by rw [hc _ _ (by simp)]; simp [go_sem]
  have t1 : w1.cell? ⟨w.heap.size + 1, 1, none⟩ = some (.int .i64 u) := by rw [hc _ _ (by simp)]; simp [go_sem]
  have t2 : w1.cell? ⟨w.heap.size + 1, 2, none⟩ = some (.int .i64 h) := by rw [hc _ _ (by simp)]; simp [go_sem]
  have t3 : w1.cell? ⟨w.heap.size + 1, 3, none⟩ = some (.int .i64 l) := by rw [hc _ _ (by simp)]; simp [go_sem]
  have rr : ∀ i, i < 5 → w1.cell? ⟨w.heap.size + 1 + 1, i, none⟩ = some (.int .i64 0) := by
    intro i hi
    rw [hc _ _ (by simp)]
    rcases (show i = 0 ∨ i = 1 ∨ i = 2 ∨ i = 3 ∨ i = 4 by omega) with rfl | rfl | rfl | rfl | rfl <;> simp [go_sem]
  exact ⟨((((((hu.setCell (p := ⟨w.heap.size, 0, none⟩) (Nat.le_refl _) _).setCell (p := ⟨w.heap.size, 1, none⟩) (Nat.le_refl _) _).setCell (p := ⟨w.heap.size, 2, none⟩) (Nat.le_refl _) _).setCell (p := ⟨w.heap.size, 3, none⟩) (Nat.le_refl _) _).setCell (p := ⟨w.heap.size, 4, none⟩) (Nat.le_refl _) _).alloc _ _), hz, cell_up (alloc_up _ _ _) ((cell_off (by decide)).trans ((cell_off (by decide)).trans ((cell_off (by decide)).trans ((cell_off (by decide)).trans (World.cell?_setCell_same _ _ _ (s0)))))), cell_up (alloc_up _ _ _) ((cell_off (by decide)).trans ((cell_off (by decide)).trans ((cell_off (by decide)).trans (World.cell?_setCell_same _ _ _ ((cell_off (by decide)).trans s1))))), cell_up (alloc_up _ _ _) ((cell_off (by decide)).trans ((cell_off (by decide)).trans (World.cell?_setCell_same _ _ _ ((cell_off (by decide)).trans ((cell_off (by decide)).trans s2))))), cell_up (alloc_up _ _ _) ((cell_off (by decide)).trans (World.cell?_setCell_same _ _ _ ((cell_off (by decide)).trans ((cell_off (by decide)).trans ((cell_off (by decide)).trans s3))))), cell_up (alloc_up _ _ _) (World.cell?_setCell_same _ _ _ ((cell_off (by decide)).trans ((cell_off (by decide)).trans ((cell_off (by decide)).trans ((cell_off (by decide)).trans s4))))), cell_up (alloc_up _ _ _) ((cell_other (by simp; try omega)).trans ((cell_other (by simp; try omega)).trans ((cell_other (by simp; try omega)).trans ((cell_other (by simp; try omega)).trans ((cell_other (by simp; try omega)).trans (t0)))))), cell_up (alloc_up _ _ _) ((cell_other (by simp; try omega)).trans ((cell_other (by simp; try omega)).trans ((cell_other (by simp; try omega)).trans ((cell_other (by simp; try omega)).trans ((cell_other (by simp; try omega)).trans (t1)))))), cell_up (alloc_up _ _ _) ((cell_other (by simp; try omega)).trans ((cell_other (by simp; try omega)).trans ((cell_other (by simp; try omega)).trans ((cell_other (by simp; try omega)).trans ((cell_other (by simp; try omega)).trans (t2)))))), cell_up (alloc_up _ _ _) ((cell_other (by simp; try omega)).trans ((cell_other (by simp; try omega)).trans ((cell_other (by simp; try omega)).trans ((cell_other (by simp; try omega)).trans ((cell_other (by simp; try omega)).trans (t3)))))), World.cell?_alloc_at _ _ _ _ (by simp [World.setCell]), World.cell?_alloc_at _ _ _ _ (by simp [World.setCell]), World.cell?_alloc_at _ _ _ _ (by simp [World.setCell]), World.cell?_alloc_at _ _ _ _ (by simp [World.setCell]), cell_up (alloc_up _ _ _) ((cell_other (by simp; try omega)).trans ((cell_other (by simp; try omega)).trans ((cell_other (by simp; try omega)).trans ((cell_other (by simp; try omega)).trans ((cell_other (by simp; try omega)).trans ((rr 0 (by omega)))))))), cell_up (alloc_up _ _ _) ((cell_other (by simp; try omega)).trans ((cell_other (by simp; try omega)).trans ((cell_other (by simp; try omega)).trans ((cell_other (by simp; try omega)).trans ((cell_other (by simp; try omega)).trans ((rr 1 (by omega)))))))), cell_up (alloc_up _ _ _) ((cell_other (by simp; try omega)).trans ((cell_other (by simp; try omega)).trans ((cell_other (by simp; try omega)).trans ((cell_other (by simp; try omega)).trans ((cell_other (by simp; try omega)).trans ((rr 2 (by omega)))))))), cell_up (alloc_up _ _ _) ((cell_other (by simp; try omega)).trans ((cell_other (by simp; try omega)).trans ((cell_other (by simp; try omega)).trans ((cell_other (by simp; try omega)).trans ((cell_other (by simp; try omega)).trans ((rr 3 (by omega)))))))), cell_up (alloc_up _ _ _) ((cell_other (by simp; try omega)).trans ((cell_other (by simp; try omega)).trans ((cell_other (by simp; try omega)).trans ((cell_other (by simp; try omega)).trans ((cell_other (by simp; try omega)).trans ((rr 4 (by omega))))))))⟩


theorem controllers_any (w : World) :
    Calls Try.prog 36 #[] w fun x w' => x = .returned (.agg #[.func (.func 38) #[] #[], .func (.func 39) #[] #[], .func (.func 40) #[] #[], .func (.func 41) #[] #[]]) ∧ Up w w' := by
  go_enter Try.func36, Try.ntmps36
  go_wp2
  refine bodyPost_ret (v := .agg #[.func (.func 38) #[] #[], .func (.func 39) #[] #[], .func (.func 40) #[] #[], .func (.func 41) #[] #[]]) (by simp [results, Try.results36, go_sem]) rfl ⟨rfl, ?_⟩
  exact (Up.refl _).alloc _ _

/-- Is it done already? -/
def pk (k n : Nat) (a b : Int) : Int := if n ≤ k then a else b
def num (x : Int) : Int := clv 0 1099511627776 x
theorem num_in (x : Int) : 0 ≤ num x ∧ num x ≤ 1099511627776 := clv_in (by decide)


/-- What Turn answers. -/
def turnv (m e _c r _q d u h l : Int) : Value := .agg #[.int .i64 (clv 0 2 (clv 0 2 m)), .int .i64 (clv 1 64 (evv (num d) (num u) (clv 1 64 e))), .int .i64 (clv 0 1 (cav (num u) (num h))), .int .i64 (clv 1 1048576 (rev (num d) (num u) (clv 1 1048576 r))), .int .i64 (clv 0 2 (quv (num l)))]

set_option maxHeartbeats 4000000 in
theorem turn_any (m e c r q d u h l : Int) (w : World) :
    Calls Try.prog 30 #[.agg #[.int .i64 m, .int .i64 e, .int .i64 c, .int .i64 r, .int .i64 q], .agg #[.int .i64 d, .int .i64 u, .int .i64 h, .int .i64 l]] w fun x w' => x = .returned (turnv m e c r q d u h l) ∧ Up w w' := by
  obtain ⟨be1, be2⟩ := clv_in (lo := 1) (hi := 64) (n := e) (by decide)
  obtain ⟨br1, br2⟩ := clv_in (lo := 1) (hi := 1048576) (n := r) (by decide)
  obtain ⟨bd1, bd2⟩ := num_in d
  obtain ⟨bu1, bu2⟩ := num_in u
  obtain ⟨bh1, bh2⟩ := num_in h
  have hmx := run_mx
  have hmn := run_mn
  have i0 : ∀ W : World, (Instr.index 66 (.agg #[.func (.func 38) #[] #[], .func (.func 39) #[] #[], .func (.func 40) #[] #[], .func (.func 41) #[] #[]]) (.int .i64 0)).run Try.prog W = .ok (.agg #[.func (.func 38) #[] #[]]) W := fun _ => by kernel_rfl
  have i1 : ∀ W : World, (Instr.index 66 (.agg #[.func (.func 38) #[] #[], .func (.func 39) #[] #[], .func (.func 40) #[] #[], .func (.func 41) #[] #[]]) (.int .i64 1)).run Try.prog W = .ok (.agg #[.func (.func 39) #[] #[]]) W := fun _ => by kernel_rfl
  have i2 : ∀ W : World, (Instr.index 66 (.agg #[.func (.func 38) #[] #[], .func (.func 39) #[] #[], .func (.func 40) #[] #[], .func (.func 41) #[] #[]]) (.int .i64 2)).run Try.prog W = .ok (.agg #[.func (.func 40) #[] #[]]) W := fun _ => by kernel_rfl
  have i3 : ∀ W : World, (Instr.index 66 (.agg #[.func (.func 38) #[] #[], .func (.func 39) #[] #[], .func (.func 40) #[] #[], .func (.func 41) #[] #[]]) (.int .i64 3)).run Try.prog W = .ok (.agg #[.func (.func 41) #[] #[]]) W := fun _ => by kernel_rfl
  go_enter Try.func30, Try.ntmps30
  go_wp2_with fail
  refine (clamp_out _ _ _ _ _ _).mono ?_
  rintro x w1 ⟨rfl, h1⟩
  obtain ⟨hc, hf, hz⟩ := h1.facts
  go_wp2_with fail
  have st := TI.start (m' := clv 0 2 m) (e' := clv 1 64 e) (c' := clv 0 1 c) (r' := clv 1 1048576 r) (q' := clv 0 2 q) h1
  clear hc hf hz h1
  go_loopw [17] (fun i wr => ∃ k : Nat, k ≤ 4 ∧ i = .int .i64 k ∧ TI w w1.heap.size (clv 0 2 m) (clv 1 64 e) (clv 0 1 c) (clv 1 1048576 r) (clv 0 2 q) (pk k 1 (num d) d) (pk k 2 (num u) u) (pk k 3 (num h) h) (pk k 4 (num l) l) wr) (fun i _ => 4 - (intOf i).toNat)
  case atStart => exact ⟨0, Nat.zero_le _, rfl, st⟩
  case round =>
    clear st
    obtain ⟨k, hk, rfl, htd⟩ := hrel
    have hk5 : k = 0 ∨ k = 1 ∨ k = 2 ∨ k = 3 ∨ k = 4 := by omega
    rcases hk5 with rfl | rfl | rfl | rfl | rfl
    · have ti : TI w w1.heap.size (clv 0 2 m) (clv 1 64 e) (clv 0 1 c) (clv 1 1048576 r) (clv 0 2 q) d u h l wr := htd
      have c1 := ti.p0
      have c2 := ti.t0
      have c3 := ti.free (w.heap.size + 1) 0 (by omega)
      clear htd
      go_wp2
      go_roundw
      case rel => exact ⟨1, by omega, rfl, ti.setT0 _⟩
      case measure => simp [intOf]
    · have ti : TI w w1.heap.size (clv 0 2 m) (clv 1 64 e) (clv 0 1 c) (clv 1 1048576 r) (clv 0 2 q) (num d) u h l wr := htd
      have c1 := ti.p1
      have c2 := ti.t1
      have c3 := ti.free (w.heap.size + 1) 1 (by omega)
      clear htd
      go_wp2
      go_roundw
      case rel => exact ⟨2, by omega, rfl, ti.setT1 _⟩
      case measure => simp [intOf]
    · have ti : TI w w1.heap.size (clv 0 2 m) (clv 1 64 e) (clv 0 1 c) (clv 1 1048576 r) (clv 0 2 q) (num d) (num u) h l wr := htd
      have c1 := ti.p2
      have c2 := ti.t2
      have c3 := ti.free (w.heap.size + 1) 2 (by omega)
      clear htd
      go_wp2
      go_roundw
      case rel => exact ⟨3, by omega, rfl, ti.setT2 _⟩
      case measure => simp [intOf]
    · have ti : TI w w1.heap.size (clv 0 2 m) (clv 1 64 e) (clv 0 1 c) (clv 1 1048576 r) (clv 0 2 q) (num d) (num u) (num h) l wr := htd
      have c1 := ti.p3
      have c2 := ti.t3
      have c3 := ti.free (w.heap.size + 1) 3 (by omega)
      clear htd
      go_wp2
      go_roundw
      case rel => exact ⟨4, by omega, rfl, ti.setT3 _⟩
      case measure => simp [intOf]
    · have ti : TI w w1.heap.size (clv 0 2 m) (clv 1 64 e) (clv 0 1 c) (clv 1 1048576 r) (clv 0 2 q) (num d) (num u) (num h) (num l) wr := htd
      clear htd hmx hmn
      go_wp2_with fail
      refine (controllers_any _).mono ?_
      rintro x w2 ⟨rfl, h2⟩
      have t2 := ti.later h2
      clear ti h2
      go_wp2_with fail
      go_loopw [30] (fun i wr => ∃ k : Nat, k ≤ 4 ∧ i = .int .i64 k ∧ TI w w1.heap.size (clv 0 2 m) (pk k 1 (evv (num d) (num u) (clv 1 64 e)) (clv 1 64 e)) (pk k 2 (cav (num u) (num h)) (clv 0 1 c)) (pk k 3 (rev (num d) (num u) (clv 1 1048576 r)) (clv 1 1048576 r)) (pk k 4 (quv (num l)) (clv 0 2 q)) (num d) (num u) (num h) (num l) wr) (fun i _ => 4 - (intOf i).toNat)
      case atStart => exact ⟨0, Nat.zero_le _, rfl, t2⟩
      case round =>
        clear t2
        obtain ⟨k, hk, rfl, htd⟩ := hrel
        have hk5 : k = 0 ∨ k = 1 ∨ k = 2 ∨ k = 3 ∨ k = 4 := by omega
        rcases hk5 with rfl | rfl | rfl | rfl | rfl
        · have ti : TI w w1.heap.size (clv 0 2 m) (clv 1 64 e) (clv 0 1 c) (clv 1 1048576 r) (clv 0 2 q) (num d) (num u) (num h) (num l) wr := htd
          have ta := ti.later (alloc_up wr #[.func (.func 38) #[] #[]] 65)
          have c0 := ti.t0
          have c1 := ti.t1
          have c2 := ti.t2
          have c3 := ti.t3
          have hlt := World.block_lt_of_cell? wr _ c0
          clear htd
          go_wp2_with fail
          refine (checkpoints_any _ _ _ _ _ _ _ _ _ _ _ ta.set be1 be2 bu1 bu2).mono ?_
          rintro x wn ⟨rfl, hon⟩
          have tn := ta.turned hon
          clear ta ti hon c0 c1 c2 c3
          go_wp2
          go_roundw
          case rel => exact ⟨1, by omega, rfl, tn⟩
          case measure => simp [intOf]
        · have ti : TI w w1.heap.size (clv 0 2 m) (evv (num d) (num u) (clv 1 64 e)) (clv 0 1 c) (clv 1 1048576 r) (clv 0 2 q) (num d) (num u) (num h) (num l) wr := htd
          have ta := ti.later (alloc_up wr #[.func (.func 39) #[] #[]] 65)
          have c0 := ti.t0
          have c1 := ti.t1
          have c2 := ti.t2
          have c3 := ti.t3
          have hlt := World.block_lt_of_cell? wr _ c0
          clear htd
          go_wp2_with fail
          refine (cancellation_any _ _ _ _ _ _ _ _ _ _ _ ta.set bu1 bu2 bh1 bh2).mono ?_
          rintro x wn ⟨rfl, hon⟩
          have tn := ta.turned hon
          clear ta ti hon c0 c1 c2 c3
          go_wp2
          go_roundw
          case rel => exact ⟨2, by omega, rfl, tn⟩
          case measure => simp [intOf]
        · have ti : TI w w1.heap.size (clv 0 2 m) (evv (num d) (num u) (clv 1 64 e)) (cav (num u) (num h)) (clv 1 1048576 r) (clv 0 2 q) (num d) (num u) (num h) (num l) wr := htd
          have ta := ti.later (alloc_up wr #[.func (.func 40) #[] #[]] 65)
          have c0 := ti.t0
          have c1 := ti.t1
          have c2 := ti.t2
          have c3 := ti.t3
          have hlt := World.block_lt_of_cell? wr _ c0
          clear htd
          go_wp2_with fail
          refine (window_any _ _ _ _ _ _ _ _ _ _ _ ta.set br1 br2 bu1 bu2).mono ?_
          rintro x wn ⟨rfl, hon⟩
          have tn := ta.turned hon
          clear ta ti hon c0 c1 c2 c3
          go_wp2
          go_roundw
          case rel => exact ⟨3, by omega, rfl, tn⟩
          case measure => simp [intOf]
        · have ti : TI w w1.heap.size (clv 0 2 m) (evv (num d) (num u) (clv 1 64 e)) (cav (num u) (num h)) (rev (num d) (num u) (clv 1 1048576 r)) (clv 0 2 q) (num d) (num u) (num h) (num l) wr := htd
          have ta := ti.later (alloc_up wr #[.func (.func 41) #[] #[]] 65)
          have c0 := ti.t0
          have c1 := ti.t1
          have c2 := ti.t2
          have c3 := ti.t3
          have hlt := World.block_lt_of_cell? wr _ c0
          clear htd
          go_wp2_with fail
          refine (structure_any _ _ _ _ _ _ _ _ _ _ _ ta.set).mono ?_
          rintro x wn ⟨rfl, hon⟩
          have tn := ta.turned hon
          clear ta ti hon c0 c1 c2 c3
          go_wp2
          go_roundw
          case rel => exact ⟨4, by omega, rfl, tn⟩
          case measure => simp [intOf]
        · have ti : TI w w1.heap.size (clv 0 2 m) (evv (num d) (num u) (clv 1 64 e)) (cav (num u) (num h)) (rev (num d) (num u) (clv 1 1048576 r)) (quv (num l)) (num d) (num u) (num h) (num l) wr := htd
          have c0 := ti.s0
          have c1 := ti.s1
          have c2 := ti.s2
          have c3 := ti.s3
          have c4 := ti.s4
          clear htd
          go_wp2_with fail
          refine (clamp_out _ _ _ _ _ _).mono ?_
          rintro x w3 ⟨rfl, h3⟩
          have tn := ti.later h3
          clear ti h3 c0 c1 c2 c3 c4
          obtain ⟨gu, gp, -, -, -, -, -, -, -, -, -, -, -, -, -, g0, g1, g2, g3, g4⟩ := tn
          have gf : ∀ i, w3.frozen? ⟨w.heap.size + 1 + 1, i, none⟩ = false := fun i => (gu.2 _).trans (frozen_new _ _ (by simp; omega))
          go_wp2
          refine bodyPost_ret (v := turnv m e c r q d u h l) (by simp [results, Try.results30, go_sem, g0, g1, g2, g3, g4, turnv]) rfl ⟨rfl, (((((gu.setCell (p := ⟨w.heap.size + 1 + 1, 0, none⟩) (by simp; omega) _).setCell (p := ⟨w.heap.size + 1 + 1, 1, none⟩) (by simp; omega) _).setCell (p := ⟨w.heap.size + 1 + 1, 2, none⟩) (by simp; omega) _).setCell (p := ⟨w.heap.size + 1 + 1, 3, none⟩) (by simp; omega) _).setCell (p := ⟨w.heap.size + 1 + 1, 4, none⟩) (by simp; omega) _)⟩

end Go.Proofs.Ytjdfgefmjiiojaa
