/- Contracts and plain laws for the statement of this claim; no condition. Here: The processor of package vm: its cells, and the contract of each instruction that calls nothing. Printed by gen_cpu.py. A law of regions that draw their order: operations that yield a fixed value in every world above the one at hand, and at most make memory, may be taken one by one as they stand; behind them a tail in its own order, from whatever world they leave. The contracts of the instructions that call: halt, less, same, div, mod. Printed by gen_cpu6.py. append, on rows that are told by their cells: what becomes of the slice and of the world. The contract of the instruction send. -/
import Derived.Test.YtalmjdlcogdpmaaGreatDoorR2
import Derived.BigRegion
import Derived.StillTail
import Derived.StillTailTactics
import Derived.Laws.AppendOwn
set_option linter.unusedVariables false
set_option linter.unusedSimpArgs false

namespace Go.Proofs.YtalmjdlcogdpmaaGreatDoor
open Go.RowKit

/-- What a handler that runs has of its own: registers, draws, the slice of what was sent, where it stands. -/
structure Regs where
  r : Nat → Int
  draws : Int
  vo : Value
  at' : Int
def upd (f : Nat → Int) (i : Nat) (v : Int) : Nat → Int := fun j => if j = i then v else f j

/-- The cells of a processor in block c. -/
structure CpuIs (w : World) (c : Nat) (vp vl : Value) (me seed : Int) (m : Msg) (s : Regs) : Prop where
  n0 : w.cell? ⟨c, 0, none⟩ = some vp
  n1 : w.cell? ⟨c, 1, none⟩ = some (.int .i64 me)
  n2 : w.cell? ⟨c, 2, none⟩ = some vl
  n3 : w.cell? ⟨c, 3, none⟩ = some (.int .u64 seed)
  m0 : w.cell? ⟨c, 4, none⟩ = some (.int .i64 m.t)
  m1 : w.cell? ⟨c, 5, none⟩ = some (.int .i64 m.f)
  m2 : w.cell? ⟨c, 6, none⟩ = some (.int .i64 m.s)
  m3 : w.cell? ⟨c, 7, none⟩ = some (.int .i64 m.to)
  m4 : w.cell? ⟨c, 8, none⟩ = some (.int .i64 m.v)
  rs : ∀ i, i < 16 → w.cell? ⟨c, 11 + i, none⟩ = some (.int .i64 (s.r i))
  d : w.cell? ⟨c, 27, none⟩ = some (.int .i64 s.draws)
  o : w.cell? ⟨c, 28, none⟩ = some s.vo
  a : w.cell? ⟨c, 29, none⟩ = some (.int .i64 s.at')
  fr : ∀ i, i < 30 → w.frozen? ⟨c, i, none⟩ = false

section
variable {w w' : World} {c : Nat} {vp vl : Value} {me seed : Int} {m : Msg} {s : Regs}
theorem CpuIs.here (h : CpuIs w c vp vl me seed m s) : c < w.heap.size := World.block_lt_of_cell? w _ h.n0
theorem CpuIs.up (h : CpuIs w c vp vl me seed m s) (hu : Up w w') : CpuIs w' c vp vl me seed m s :=
  ⟨cell_up hu h.n0, cell_up hu h.n1, cell_up hu h.n2, cell_up hu h.n3, cell_up hu h.m0, cell_up hu h.m1, cell_up hu h.m2, cell_up hu h.m3, cell_up hu h.m4, fun i hi => cell_up hu (h.rs i hi), cell_up hu h.d, cell_up hu h.o, cell_up hu h.a, fun i hi => (hu.2 _).trans (h.fr i hi)⟩
theorem CpuIs.chg {S : Nat → Prop} (h : CpuIs w c vp vl me seed m s) (hu : Chg S w w') (hn : ¬ S c) : CpuIs w' c vp vl me seed m s :=
  ⟨hu.cell hn h.n0, hu.cell hn h.n1, hu.cell hn h.n2, hu.cell hn h.n3, hu.cell hn h.m0, hu.cell hn h.m1, hu.cell hn h.m2, hu.cell hn h.m3, hu.cell hn h.m4, fun i hi => hu.cell hn (h.rs i hi), hu.cell hn h.d, hu.cell hn h.o, hu.cell hn h.a, fun i hi => (hu.marks _).trans (h.fr i hi)⟩
theorem cell_off' {W : World} {b i j : Nat} {x v : Value} (h : i ≠ j) (hc : W.cell? ⟨b, j, none⟩ = some v) : (W.setCell ⟨b, i, none⟩ x).cell? ⟨b, j, none⟩ = some v := (cell_off h).trans hc
theorem CpuIs.reg (h : CpuIs w c vp vl me seed m s) {i : Nat} (hi : i < 16) (v : Int) : CpuIs (w.setCell ⟨c, 11 + i, none⟩ (.int .i64 v)) c vp vl me seed m { s with r := upd s.r i v } := by
  refine ⟨cell_off' (by omega) h.n0, cell_off' (by omega) h.n1, cell_off' (by omega) h.n2, cell_off' (by omega) h.n3, cell_off' (by omega) h.m0, cell_off' (by omega) h.m1, cell_off' (by omega) h.m2, cell_off' (by omega) h.m3, cell_off' (by omega) h.m4, fun j hj => ?_, cell_off' (by omega) h.d, cell_off' (by omega) h.o, cell_off' (by omega) h.a, fun j hj => (World.frozen?_setCell _ _ _ _).trans (h.fr j hj)⟩
  by_cases e : j = i
  · subst e; simp only [upd, if_pos]; exact World.cell?_setCell_same _ _ _ (h.rs j hj)
  · simp only [upd, if_neg e]; exact cell_off' (by omega) (h.rs j hj)
theorem CpuIs.go (h : CpuIs w c vp vl me seed m s) (v : Int) : CpuIs (w.setCell ⟨c, 29, none⟩ (.int .i64 v)) c vp vl me seed m { s with at' := v } :=
  ⟨cell_off' (by omega) h.n0, cell_off' (by omega) h.n1, cell_off' (by omega) h.n2, cell_off' (by omega) h.n3, cell_off' (by omega) h.m0, cell_off' (by omega) h.m1, cell_off' (by omega) h.m2, cell_off' (by omega) h.m3, cell_off' (by omega) h.m4, fun j hj => cell_off' (by omega) (h.rs j hj), cell_off' (by omega) h.d, cell_off' (by omega) h.o, World.cell?_setCell_same _ _ _ h.a, fun j hj => (World.frozen?_setCell _ _ _ _).trans (h.fr j hj)⟩
theorem CpuIs.drawn (h : CpuIs w c vp vl me seed m s) (v : Int) : CpuIs (w.setCell ⟨c, 27, none⟩ (.int .i64 v)) c vp vl me seed m { s with draws := v } :=
  ⟨cell_off' (by omega) h.n0, cell_off' (by omega) h.n1, cell_off' (by omega) h.n2, cell_off' (by omega) h.n3, cell_off' (by omega) h.m0, cell_off' (by omega) h.m1, cell_off' (by omega) h.m2, cell_off' (by omega) h.m3, cell_off' (by omega) h.m4, fun j hj => cell_off' (by omega) (h.rs j hj), World.cell?_setCell_same _ _ _ h.d, cell_off' (by omega) h.o, cell_off' (by omega) h.a, fun j hj => (World.frozen?_setCell _ _ _ _).trans (h.fr j hj)⟩
theorem CpuIs.sent (h : CpuIs w c vp vl me seed m s) (v : Value) : CpuIs (w.setCell ⟨c, 28, none⟩ v) c vp vl me seed m { s with vo := v } :=
  ⟨cell_off' (by omega) h.n0, cell_off' (by omega) h.n1, cell_off' (by omega) h.n2, cell_off' (by omega) h.n3, cell_off' (by omega) h.m0, cell_off' (by omega) h.m1, cell_off' (by omega) h.m2, cell_off' (by omega) h.m3, cell_off' (by omega) h.m4, fun j hj => cell_off' (by omega) (h.rs j hj), cell_off' (by omega) h.d, World.cell?_setCell_same _ _ _ h.o, cell_off' (by omega) h.a, fun j hj => (World.frozen?_setCell _ _ _ _).trans (h.fr j hj)⟩
end

/-- What an instruction leaves. -/
def Stepped (w w' : World) (c : Nat) (vp vl : Value) (me seed : Int) (m : Msg) (s' : Regs) : Prop := Chg (· = c) w w' ∧ CpuIs w' c vp vl me seed m s'
theorem stepped_reg {w : World} {c : Nat} {vp vl : Value} {me seed : Int} {m : Msg} {s : Regs} (h : CpuIs w c vp vl me seed m s) {i : Nat} (hi : i < 16) (v : Int) {w' : World} (hu : Up (w.setCell ⟨c, 11 + i, none⟩ (.int .i64 v)) w') : Stepped w w' c vp vl me seed m { s with r := upd s.r i v } :=
  ⟨((Chg.refl (· = c) w).setCell (Or.inl rfl) _).up hu, (h.reg hi v).up hu⟩
theorem stepped_go {w : World} {c : Nat} {vp vl : Value} {me seed : Int} {m : Msg} {s : Regs} (h : CpuIs w c vp vl me seed m s) (v : Int) {w' : World} (hu : Up (w.setCell ⟨c, 29, none⟩ (.int .i64 v)) w') : Stepped w w' c vp vl me seed m { s with at' := v } :=
  ⟨((Chg.refl (· = c) w).setCell (Or.inl rfl) _).up hu, (h.go v).up hu⟩

set_option maxHeartbeats 400000 in
theorem set_any (c : Nat) (vp vl : Value) (me seed : Int) (m : Msg) (s : Regs) (op b x : Int) (i : Nat) (w : World) (h : CpuIs w c vp vl me seed m s) (hi : i < 16) :
    Calls Tryz.prog 70 #[.pointer (some ⟨c, 0, none⟩), .agg #[.int .i64 op, .int .i64 (i : Nat), .int .i64 b, .int .i64 x]] w fun e w' => e = .returned (.tuple #[]) ∧ Stepped w w' c vp vl me seed m { s with r := upd s.r i (b) } := by
  have hb := h.here
  have hu : ∀ (W : World) (cs : Array Value) (t : TypeId), Up W (W.alloc (.cells cs t)).drew := fun W cs t => (alloc_up W cs t).drew
  have c_i := h.rs i hi
  have f_i := h.fr (11 + i) (by omega)
  have H := Lib.hid h
  clear h
  go_enter Tryz.func70, Tryz.ntmps70
  go_wp2
  go_region
  go_end0
  exact ⟨rfl, stepped_reg H.out hi _ (hu _ _ _)⟩

set_option maxHeartbeats 400000 in
theorem move_any (c : Nat) (vp vl : Value) (me seed : Int) (m : Msg) (s : Regs) (op x : Int) (i j : Nat) (w : World) (h : CpuIs w c vp vl me seed m s) (hi : i < 16) (hj : j < 16) :
    Calls Tryz.prog 71 #[.pointer (some ⟨c, 0, none⟩), .agg #[.int .i64 op, .int .i64 (i : Nat), .int .i64 (j : Nat), .int .i64 x]] w fun e w' => e = .returned (.tuple #[]) ∧ Stepped w w' c vp vl me seed m { s with r := upd s.r i (s.r j) } := by
  have hb := h.here
  have hu : ∀ (W : World) (cs : Array Value) (t : TypeId), Up W (W.alloc (.cells cs t)).drew := fun W cs t => (alloc_up W cs t).drew
  have c_i := h.rs i hi
  have f_i := h.fr (11 + i) (by omega)
  have c_j := h.rs j hj
  have f_j := h.fr (11 + j) (by omega)
  have H := Lib.hid h
  clear h
  go_enter Tryz.func71, Tryz.ntmps71
  go_wp2
  go_region
  go_end0
  exact ⟨rfl, stepped_reg H.out hi _ (hu _ _ _)⟩

set_option maxHeartbeats 400000 in
theorem cadd_any (c : Nat) (vp vl : Value) (me seed : Int) (m : Msg) (s : Regs) (op : Int) (i j k : Nat) (w : World) (h : CpuIs w c vp vl me seed m s) (hi : i < 16) (hj : j < 16) (hk : k < 16) :
    Calls Tryz.prog 72 #[.pointer (some ⟨c, 0, none⟩), .agg #[.int .i64 op, .int .i64 (i : Nat), .int .i64 (j : Nat), .int .i64 (k : Nat)]] w fun e w' => e = .returned (.tuple #[]) ∧ Stepped w w' c vp vl me seed m { s with r := upd s.r i (wrap64 (s.r j + s.r k)) } := by
  have hb := h.here
  have hu : ∀ (W : World) (cs : Array Value) (t : TypeId), Up W (W.alloc (.cells cs t)).drew := fun W cs t => (alloc_up W cs t).drew
  have c_i := h.rs i hi
  have f_i := h.fr (11 + i) (by omega)
  have c_j := h.rs j hj
  have f_j := h.fr (11 + j) (by omega)
  have c_k := h.rs k hk
  have f_k := h.fr (11 + k) (by omega)
  have H := Lib.hid h
  clear h
  go_enter Tryz.func72, Tryz.ntmps72
  go_wp2
  go_region
  go_end0
  exact ⟨rfl, stepped_reg H.out hi _ (hu _ _ _)⟩

set_option maxHeartbeats 400000 in
theorem sub_any (c : Nat) (vp vl : Value) (me seed : Int) (m : Msg) (s : Regs) (op : Int) (i j k : Nat) (w : World) (h : CpuIs w c vp vl me seed m s) (hi : i < 16) (hj : j < 16) (hk : k < 16) :
    Calls Tryz.prog 73 #[.pointer (some ⟨c, 0, none⟩), .agg #[.int .i64 op, .int .i64 (i : Nat), .int .i64 (j : Nat), .int .i64 (k : Nat)]] w fun e w' => e = .returned (.tuple #[]) ∧ Stepped w w' c vp vl me seed m { s with r := upd s.r i (wrap64 (s.r j - s.r k)) } := by
  have hb := h.here
  have hu : ∀ (W : World) (cs : Array Value) (t : TypeId), Up W (W.alloc (.cells cs t)).drew := fun W cs t => (alloc_up W cs t).drew
  have c_i := h.rs i hi
  have f_i := h.fr (11 + i) (by omega)
  have c_j := h.rs j hj
  have f_j := h.fr (11 + j) (by omega)
  have c_k := h.rs k hk
  have f_k := h.fr (11 + k) (by omega)
  have H := Lib.hid h
  clear h
  go_enter Tryz.func73, Tryz.ntmps73
  go_wp2
  go_region
  go_end0
  exact ⟨rfl, stepped_reg H.out hi _ (hu _ _ _)⟩

set_option maxHeartbeats 400000 in
theorem mul_any (c : Nat) (vp vl : Value) (me seed : Int) (m : Msg) (s : Regs) (op : Int) (i j k : Nat) (w : World) (h : CpuIs w c vp vl me seed m s) (hi : i < 16) (hj : j < 16) (hk : k < 16) :
    Calls Tryz.prog 74 #[.pointer (some ⟨c, 0, none⟩), .agg #[.int .i64 op, .int .i64 (i : Nat), .int .i64 (j : Nat), .int .i64 (k : Nat)]] w fun e w' => e = .returned (.tuple #[]) ∧ Stepped w w' c vp vl me seed m { s with r := upd s.r i (wrap64 (s.r j * s.r k)) } := by
  have hb := h.here
  have hu : ∀ (W : World) (cs : Array Value) (t : TypeId), Up W (W.alloc (.cells cs t)).drew := fun W cs t => (alloc_up W cs t).drew
  have c_i := h.rs i hi
  have f_i := h.fr (11 + i) (by omega)
  have c_j := h.rs j hj
  have f_j := h.fr (11 + j) (by omega)
  have c_k := h.rs k hk
  have f_k := h.fr (11 + k) (by omega)
  have H := Lib.hid h
  clear h
  go_enter Tryz.func74, Tryz.ntmps74
  go_wp2
  go_region
  go_end0
  exact ⟨rfl, stepped_reg H.out hi _ (hu _ _ _)⟩

set_option maxHeartbeats 400000 in
theorem value_any (c : Nat) (vp vl : Value) (me seed : Int) (m : Msg) (s : Regs) (op b x : Int) (i : Nat) (w : World) (h : CpuIs w c vp vl me seed m s) (hi : i < 16) :
    Calls Tryz.prog 83 #[.pointer (some ⟨c, 0, none⟩), .agg #[.int .i64 op, .int .i64 (i : Nat), .int .i64 b, .int .i64 x]] w fun e w' => e = .returned (.tuple #[]) ∧ Stepped w w' c vp vl me seed m { s with r := upd s.r i (m.v) } := by
  have hb := h.here
  have hu : ∀ (W : World) (cs : Array Value) (t : TypeId), Up W (W.alloc (.cells cs t)).drew := fun W cs t => (alloc_up W cs t).drew
  have c_i := h.rs i hi
  have f_i := h.fr (11 + i) (by omega)
  have c_m := h.m4
  have H := Lib.hid h
  clear h
  go_enter Tryz.func83, Tryz.ntmps83
  go_wp2
  go_region
  go_end0
  exact ⟨rfl, stepped_reg H.out hi _ (hu _ _ _)⟩

set_option maxHeartbeats 400000 in
theorem time_any (c : Nat) (vp vl : Value) (me seed : Int) (m : Msg) (s : Regs) (op b x : Int) (i : Nat) (w : World) (h : CpuIs w c vp vl me seed m s) (hi : i < 16) :
    Calls Tryz.prog 84 #[.pointer (some ⟨c, 0, none⟩), .agg #[.int .i64 op, .int .i64 (i : Nat), .int .i64 b, .int .i64 x]] w fun e w' => e = .returned (.tuple #[]) ∧ Stepped w w' c vp vl me seed m { s with r := upd s.r i (m.t) } := by
  have hb := h.here
  have hu : ∀ (W : World) (cs : Array Value) (t : TypeId), Up W (W.alloc (.cells cs t)).drew := fun W cs t => (alloc_up W cs t).drew
  have c_i := h.rs i hi
  have f_i := h.fr (11 + i) (by omega)
  have c_m := h.m0
  have H := Lib.hid h
  clear h
  go_enter Tryz.func84, Tryz.ntmps84
  go_wp2
  go_region
  go_end0
  exact ⟨rfl, stepped_reg H.out hi _ (hu _ _ _)⟩

set_option maxHeartbeats 400000 in
theorem self_any (c : Nat) (vp vl : Value) (me seed : Int) (m : Msg) (s : Regs) (op b x : Int) (i : Nat) (w : World) (h : CpuIs w c vp vl me seed m s) (hi : i < 16) :
    Calls Tryz.prog 85 #[.pointer (some ⟨c, 0, none⟩), .agg #[.int .i64 op, .int .i64 (i : Nat), .int .i64 b, .int .i64 x]] w fun e w' => e = .returned (.tuple #[]) ∧ Stepped w w' c vp vl me seed m { s with r := upd s.r i (me) } := by
  have hb := h.here
  have hu : ∀ (W : World) (cs : Array Value) (t : TypeId), Up W (W.alloc (.cells cs t)).drew := fun W cs t => (alloc_up W cs t).drew
  have c_i := h.rs i hi
  have f_i := h.fr (11 + i) (by omega)
  have c_m := h.n1
  have H := Lib.hid h
  clear h
  go_enter Tryz.func85, Tryz.ntmps85
  go_wp2
  go_region
  go_end0
  exact ⟨rfl, stepped_reg H.out hi _ (hu _ _ _)⟩

set_option maxHeartbeats 400000 in
theorem jump_any (c : Nat) (vp vl : Value) (me seed : Int) (m : Msg) (s : Regs) (op a b x : Int) (w : World) (h : CpuIs w c vp vl me seed m s) :
    Calls Tryz.prog 79 #[.pointer (some ⟨c, 0, none⟩), .agg #[.int .i64 op, .int .i64 a, .int .i64 b, .int .i64 x]] w fun e w' => e = .returned (.tuple #[]) ∧ Stepped w w' c vp vl me seed m { s with at' := a } := by
  have hb := h.here
  have hu : ∀ (W : World) (cs : Array Value) (t : TypeId), Up W (W.alloc (.cells cs t)).drew := fun W cs t => (alloc_up W cs t).drew
  have c_at := h.a
  have f_at := h.fr 29 (by omega)
  have H := Lib.hid h
  clear h
  go_enter Tryz.func79, Tryz.ntmps79
  go_wp2
  go_end0
  exact ⟨rfl, stepped_go H.out _ (by exact alloc_up _ _ _)⟩

set_option maxHeartbeats 400000 in
theorem zero_yes (c : Nat) (vp vl : Value) (me seed : Int) (m : Msg) (s : Regs) (op b x : Int) (i : Nat) (w : World) (h : CpuIs w c vp vl me seed m s) (hi : i < 16) (hz : s.r i = 0) :
    Calls Tryz.prog 80 #[.pointer (some ⟨c, 0, none⟩), .agg #[.int .i64 op, .int .i64 (i : Nat), .int .i64 b, .int .i64 x]] w fun e w' => e = .returned (.tuple #[]) ∧ Stepped w w' c vp vl me seed m { s with at' := b } := by
  have hb := h.here
  have hu : ∀ (W : World) (cs : Array Value) (t : TypeId), Up W (W.alloc (.cells cs t)).drew := fun W cs t => (alloc_up W cs t).drew
  have c_at := h.a
  have f_at := h.fr 29 (by omega)
  have c_i := h.rs i hi
  have f_i := h.fr (11 + i) (by omega)
  have H := Lib.hid h
  clear h
  go_enter Tryz.func80, Tryz.ntmps80
  go_wp2
  go_region
  go_wp2
  go_end0
  exact ⟨rfl, stepped_go H.out _ (by trace_state; exact hu _ _ _)⟩

set_option maxHeartbeats 400000 in
theorem zero_no (c : Nat) (vp vl : Value) (me seed : Int) (m : Msg) (s : Regs) (op b x : Int) (i : Nat) (w : World) (h : CpuIs w c vp vl me seed m s) (hi : i < 16) (hz : s.r i ≠ 0) :
    Calls Tryz.prog 80 #[.pointer (some ⟨c, 0, none⟩), .agg #[.int .i64 op, .int .i64 (i : Nat), .int .i64 b, .int .i64 x]] w fun e w' => e = .returned (.tuple #[]) ∧ Stepped w w' c vp vl me seed m s := by
  have hb := h.here
  have hu : ∀ (W : World) (cs : Array Value) (t : TypeId), Up W (W.alloc (.cells cs t)).drew := fun W cs t => (alloc_up W cs t).drew
  have c_at := h.a
  have f_at := h.fr 29 (by omega)
  have c_i := h.rs i hi
  have f_i := h.fr (11 + i) (by omega)
  have H := Lib.hid h
  clear h
  go_enter Tryz.func80, Tryz.ntmps80
  go_wp2
  go_region
  go_wp2
  go_end0
  exact ⟨rfl, ⟨.of_up (by trace_state; exact hu _ _ _), H.out.up (hu _ _ _)⟩⟩
end Go.Proofs.YtalmjdlcogdpmaaGreatDoor

namespace Go.Proofs.YtalmjdlcogdpmaaGreatDoor
open Go Go.RowKit

/-- A way in which a world may grow. -/
structure Pre where
  r : World → World → Prop
  refl : ∀ w, r w w
  trans : ∀ {a b c}, r a b → r b c → r a c
def upPre : Pre := ⟨Up, Up.refl, Up.trans⟩
def chgPre (S : Nat → Prop) : Pre := ⟨Chg S, Chg.refl S, fun h k => h.trans k fun _ _ e => e⟩

section
variable {ρ : Pre} {P : Program} {ops : Array Oper} {md : Region.Mode}

/-- The run of an operation yields v and leaves a world above W. -/
def upUpon (ρ : Pre) (P : Program) (W : World) (v : Value) : Result Next → Prop
  | .ok (.value u) W' => u = v ∧ ρ.r W W'
  | .ok .skip W' => undef = v ∧ ρ.r W W'
  | .ok (.enter f args) W' => Calls P f args W' (fun e W'' => e = .returned v ∧ ρ.r W W'')
  | .ok (.row row args) W' => Rows P row args W' (fun u W'' => u = v ∧ ρ.r W W'')
  | _ => False


/-- In state a, in every world above w, the operation yields v and at most makes memory. -/
def YieldsUp (ρ : Pre) (P : Program) (ops : Array Oper) (w : World) (o : Oper) (v : Value) (a : Act) : Prop :=
  (Region.wanted o (yielded ops a.tmps) = true ∧ ∀ W, ρ.r w W → upUpon ρ P W v ((execOp a.eval o).run P W)) ∨
  (Region.wanted o (yielded ops a.tmps) = false ∧ v = undef)

theorem YieldsUp.up {w W : World} {o : Oper} {v : Value} {a : Act} (h : YieldsUp ρ P ops w o v a) (hu : ρ.r w W) : YieldsUp ρ P ops W o v a :=
  h.imp (fun ⟨h1, h2⟩ => ⟨h1, fun W' hW => h2 W' (ρ.trans hu hW)⟩) id
theorem YieldsUp.of_same {w : World} {o : Oper} {v : Value} {a a' : Act} (hy : YieldsUp ρ P ops w o v a) (he : execOp a'.eval o = execOp a.eval o)
    (hw : Region.wanted o (yielded ops a'.tmps) = Region.wanted o (yielded ops a.tmps)) : YieldsUp ρ P ops w o v a' := by
  unfold YieldsUp at *
  rw [he, hw]
  exact hy

/-- One operation, carried out: no panic, at most new memory, and K behind it. -/
def ucUpon (ρ : Pre) (P : Program) (o : Oper) (a : Act) (W : World) (K : Act → World → Prop) : Result Next → Prop
  | .ok (.value u) W' => ρ.r W W' ∧ K (a.put o.dst u) W'
  | .ok .skip W' => ρ.r W W' ∧ K (a.put o.dst undef) W'
  | .ok (.enter f args) W' => Calls P f args W' (fun e W'' => ∃ u, e = .returned u ∧ ρ.r W W'' ∧ K (a.put o.dst u) W'')
  | .ok (.row row args) W' => Rows P row args W' (fun u W'' => ρ.r W W'' ∧ K (a.put o.dst u) W'')
  | _ => False
def ucOp (ρ : Pre) (P : Program) (ops : Array Oper) (i : Nat) (K : Act → World → Prop) (a : Act) (W : World) : Prop :=
  match ops[i]? with
  | none => K a W
  | some o => if Region.wanted o (yielded ops a.tmps) then ucUpon ρ P o a W K ((execOp a.eval o).run P W) else K (a.put o.dst undef) W

theorem ucUpon_mono {o : Oper} {a : Act} {W : World} {K K' : Act → World → Prop} {r : Result Next} (h : ∀ a W', ρ.r W W' → K a W' → K' a W') (hh : ucUpon ρ P o a W K r) : ucUpon ρ P o a W K' r := by
  cases r with
  | ok n W' =>
    cases n <;> simp only [ucUpon] at hh ⊢
    case value u => exact ⟨hh.1, h _ _ hh.1 hh.2⟩
    case skip => exact ⟨hh.1, h _ _ hh.1 hh.2⟩
    case enter f args => exact hh.mono fun e W'' ⟨u, he, h1, h2⟩ => ⟨u, he, h1, h _ _ h1 h2⟩
    case row row args => exact hh.mono fun u W'' ⟨h1, h2⟩ => ⟨h1, h _ _ h1 h2⟩
  | halt x W' => simp only [ucUpon] at hh
theorem ucOp_mono {i : Nat} {a : Act} {W : World} {K K' : Act → World → Prop} (h : ∀ a W', ρ.r W W' → K a W' → K' a W') (hh : ucOp ρ P ops i K a W) : ucOp ρ P ops i K' a W := by
  unfold ucOp at *
  split
  · rename_i ho; simp only [ho] at hh; exact h _ _ (ρ.refl _) hh
  · rename_i o ho
    simp only [ho] at hh
    split
    · rename_i hw; simp only [hw, if_true] at hh; exact ucUpon_mono h hh
    · rename_i hw; simp only [hw] at hh; exact h _ _ (ρ.refl _) hh

theorem wpOp_of_ucOp {i : Nat} {a : Act} {W : World} {K K' : Act → World → Prop} {Q : Exit → Act → World → Prop} (h : ∀ a W', ρ.r W W' → K a W' → K' a W') (hh : ucOp ρ P ops i K a W) : wpOp P ops Q i K' a W := by
  unfold ucOp at hh
  unfold wpOp
  split
  · rename_i ho; simp only [ho] at hh; exact h _ _ (ρ.refl _) hh
  · rename_i o ho
    simp only [ho] at hh
    split
    · rename_i hw
      simp only [hw, if_true] at hh
      refine .inl ?_
      unfold Oper.wp
      generalize (execOp a.eval o).run P W = r at *
      cases r with
      | ok n W' =>
        cases n <;> simp only [ucUpon] at hh <;> simp only [Oper.upon]
        case value u => exact h _ _ hh.1 hh.2
        case skip => exact h _ _ hh.1 hh.2
        case enter f args => exact hh.mono fun e W'' ⟨u, he, h1, h2⟩ => by subst he; exact h _ _ h1 h2
        case row row args => exact hh.mono fun u W'' ⟨h1, h2⟩ => h _ _ h1 h2
      | halt x W' => simp only [ucUpon] at hh
    · rename_i hw; simp only [hw] at hh; exact h _ _ (ρ.refl _) hh

theorem YieldsUp.ucOp {i : Nat} {o : Oper} {v : Value} {a : Act} {w W : World} (hi : ops[i]? = some o) (hy : YieldsUp ρ P ops w o v a) (hu : ρ.r w W) {K : Act → World → Prop}
    (h : ∀ W', ρ.r W W' → K (a.put o.dst v) W') : ucOp ρ P ops i K a W := by
  unfold Go.Proofs.YtalmjdlcogdpmaaGreatDoor.ucOp
  simp only [hi]
  rcases hy with ⟨hw, hv⟩ | ⟨hw, rfl⟩
  · simp only [hw, if_true]
    have hv := hv W hu
    generalize (execOp a.eval o).run P W = r at *
    cases r with
    | ok n W' =>
      cases n <;> simp only [upUpon] at hv <;> simp only [ucUpon]
      case value u => obtain ⟨rfl, h1⟩ := hv; exact ⟨h1, h _ h1⟩
      case skip => obtain ⟨rfl, h1⟩ := hv; exact ⟨h1, h _ h1⟩
      case enter f args => exact hv.mono fun e W'' ⟨he, h1⟩ => ⟨v, he, h1, h _ h1⟩
      case row row args => exact hv.mono fun u W'' ⟨he, h1⟩ => ⟨h1, by rw [he]; exact h _ h1⟩
    | halt x W' => simp only [upUpon] at hv
  · simp only [hw, Bool.false_eq_true, if_false]; exact h _ (ρ.refl _)

/-- Whether the value of 'oi' is already there makes no difference to an operation that is apart from it. -/
theorem ucOp_put2 {w W : World} {j : Nat} {ns : Prop} {oi oj : Oper} {v : Value} (hj : ops[j]? = some oj) (hap : oi.apart ops oj = true)
    (hsi : ∀ cs b, oi.op ≠ .select cs b) (hsj : ∀ cs b, oj.op ≠ .select cs b) {K : Act → World → Prop} {a : Act}
    (hy : YieldsUp ρ P ops w oi v a) (hyn : ns → Yields P ops oi v a) (h : ucOp ρ P ops j K (a.put oi.dst v) W) :
    ucOp ρ P ops j (fun a' W' => (YieldsUp ρ P ops w oi v a' ∧ (ns → Yields P ops oi v a')) ∧ K (a'.put oi.dst v) W') a W := by
  obtain ⟨h1, h2, h3⟩ := Oper.apart_spec hap
  have keep : ∀ u, YieldsUp ρ P ops w oi v (a.put oj.dst u) ∧ (ns → Yields P ops oi v (a.put oj.dst u)) := fun u =>
    ⟨hy.of_same (execOp_put oi hsi a oj.dst u h3) (wanted_put oi a oj.dst u h3), fun hn => (hyn hn).of_same (execOp_put oi hsi a oj.dst u h3) (wanted_put oi a oj.dst u h3)⟩
  unfold ucOp at *
  simp only [hj] at *
  rw [wanted_put oj a oi.dst v h1] at h
  split
  · rename_i hw
    simp only [hw, if_true] at h
    rw [execOp_put oj hsj a oi.dst v h1] at h
    generalize (execOp a.eval oj).run P W = r at *
    cases r with
    | ok n W' =>
      cases n <;> simp only [ucUpon] at h ⊢
      case value u => exact ⟨h.1, keep u, by rw [← Act.put_comm a v u h2]; exact h.2⟩
      case skip => exact ⟨h.1, keep _, by rw [← Act.put_comm a v undef h2]; exact h.2⟩
      case enter f args => exact h.mono fun e W'' ⟨u, he, hu, hk⟩ => ⟨u, he, hu, keep u, by rw [← Act.put_comm a v u h2]; exact hk⟩
      case row row args => exact h.mono fun u W'' ⟨hu, hk⟩ => ⟨hu, keep u, by rw [← Act.put_comm a v u h2]; exact hk⟩
    | halt x W' => simp only [ucUpon] at h
  · rename_i hw
    simp only [hw] at h
    exact ⟨keep _, by rw [← Act.put_comm a v undef h2]; exact h⟩

/-- The head in whatever order, in whatever world above; what comes up of the tail T is walked as ever. -/
def wpAnyG (ρ : Pre) (P : Program) (md : Region.Mode) (ops : Array Oper) (Q : Exit → Act → World → Prop) (T : List Nat) : Nat → Array Bool → Act → World → Prop
  | 0, listed, a, w => ∀ W, ρ.r w W → Region.ready md ops listed = [] ∧ Q .normal a W
  | f + 1, listed, a, w => ∀ W, ρ.r w W → (Region.ready md ops listed = [] → Q .normal a W) ∧
    ∀ i ∈ Region.ready md ops listed, ucOp ρ P ops i (wpAnyG ρ P md ops Q T f (listed.setIfInBounds i true)) a W ∨ (i ∈ T ∧ wpOp P ops Q i (wpAny P md ops Q f (listed.setIfInBounds i true)) a W)

section
variable {Q : Exit → Act → World → Prop} {T : List Nat}
theorem wpAnyG_up : ∀ {f : Nat} {listed : Array Bool} {a : Act} {w W : World}, wpAnyG ρ P md ops Q T f listed a w → ρ.r w W → wpAnyG ρ P md ops Q T f listed a W
  | 0, _, _, _, _, h, hu => fun W' hW => h W' (ρ.trans hu hW)
  | _ + 1, _, _, _, _, h, hu => fun W' hW => h W' (ρ.trans hu hW)

theorem wpAny_of_G : ∀ (f : Nat) (listed : Array Bool) (a : Act) (w : World), wpAnyG ρ P md ops Q T f listed a w → wpAny P md ops Q f listed a w
  | 0, _, _, w, h => h w (ρ.refl _)
  | f + 1, listed, a, w, h => by
    have h := h w (ρ.refl _)
    exact ⟨h.1, fun i hi => (h.2 i hi).elim (fun hu => wpOp_of_ucOp (fun a' W' _ h' => wpAny_of_G f _ a' W' h') hu) fun hw => hw.2⟩

/-- No other operation than the tail's is left. -/
theorem G_of_wpAny : ∀ {f : Nat} {listed : Array Bool} {a : Act} {w : World}, (∀ j ∈ Region.ready md ops listed, j ∈ T) → (∀ W, ρ.r w W → wpAny P md ops Q f listed a W) → wpAnyG ρ P md ops Q T f listed a w
  | 0, _, _, _, _, h => fun W hW => h W hW
  | _ + 1, _, _, _, hd, h => fun W hW => ⟨(h W hW).1, fun i hi => .inr ⟨hd i hi, (h W hW).2 i hi⟩⟩
end

/-- Each of the tail waits for the one ahead of it. -/
def chainL (md : Region.Mode) (ops : Array Oper) : List Nat → Bool
  | t :: u :: rest => Region.waitsFor md ops u t && chainL md ops (u :: rest)
  | _ => true
/-- Whoever of the head is not in ns is waited for, in the end by t. -/
def sinkL (md : Region.Mode) (ops : Array Oper) (ns : List Nat) (t : Nat) : List Nat → Bool
  | [] => true
  | i :: rest => (ns.contains i || (rest ++ [t]).any fun j => !ns.contains j && Region.waitsFor md ops j i) && sinkL md ops ns t rest

/-- What stands while none of the tail has come up: nobody is listed ahead of those that he waits for. -/
structure HeadI (md : Region.Mode) (ops : Array Oper) (T : List Nat) (listed : Array Bool) : Prop where
  size : listed.size = ops.size
  closed : ∀ j oj, ops[j]? = some oj → listed.getD j false = true → ∀ e ∈ oj.after, Region.binds md e = true → listed.getD e.on false = true
  tail : ∀ t ∈ T, listed.getD t true = false

theorem HeadI.set {T : List Nat} {i : Nat} {listed : Array Bool} (inv : HeadI md ops T listed) (hi : i ∈ Region.ready md ops listed) (hin : i ∉ T) : HeadI md ops T (listed.setIfInBounds i true) := by
  obtain ⟨_, oi, hoi, hall⟩ := mem_ready.1 hi
  refine ⟨by simp [inv.size], fun j oj hj hl e he hb => ?_, fun t ht => (getD_set_ne true (by rintro rfl; exact hin ht)).trans (inv.tail t ht)⟩
  by_cases hij : i = j
  · subst hij
    have : oj = oi := Option.some.inj (hj.symm.trans hoi)
    subst this
    exact getD_set_true (hall e he hb)
  · rw [getD_set_ne false hij] at hl
    exact getD_set_true (inv.closed j oj hj hl e he hb)

theorem chain_waits {listed : Array Bool} : ∀ (T : List Nat) (t0 : Nat), chainL md ops (t0 :: T) = true → (∀ t ∈ t0 :: T, listed.getD t true = false) → t0 ∉ Region.ready md ops listed → ∀ t ∈ t0 :: T, t ∉ Region.ready md ops listed
  | [], t0, _, _, h0, t, ht => by simp at ht; subst ht; exact h0
  | u :: rest, t0, hc, hl, h0, t, ht => by
    simp only [chainL, Bool.and_eq_true] at hc
    have hu : u ∉ Region.ready md ops listed := fun hr => by
      obtain ⟨oj, hoj, e, he, hb, hon⟩ := Region.waitsFor_spec hc.1
      obtain ⟨_, ou, hou, hall⟩ := mem_ready.1 hr
      have : oj = ou := Option.some.inj (hoj.symm.trans hou)
      subst this
      have h2 := hall e he hb
      rw [hon, getD_both (hl t0 (by simp))] at h2
      cases h2
    rcases List.mem_cons.1 ht with rfl | ht'
    · exact h0
    · exact chain_waits rest u hc.2 (fun x hx => hl x (List.mem_cons_of_mem _ hx)) hu t ht'

theorem sink_waits {ns : List Nat} {t0 : Nat} {T : List Nat} {listed : Array Bool} (hc : chainL md ops (t0 :: T) = true) (inv : HeadI md ops (t0 :: T) listed) :
    ∀ (l : List Nat), sinkL md ops ns t0 l = true → (∀ j ∈ l, j < ops.size) → ∀ i ∈ l, ns.contains i = false → listed.getD i true = false → ∀ t ∈ t0 :: T, t ∉ Region.ready md ops listed
  | [], _, _, i, hi, _, _ => by cases hi
  | x :: rest, hs, hlt, i, hi, hns, hun => by
    simp only [sinkL, Bool.and_eq_true] at hs
    rcases List.mem_cons.1 hi with rfl | hi'
    · rw [hns, Bool.false_or] at hs
      obtain ⟨j, hj, hj2⟩ := List.any_eq_true.1 hs.1
      simp only [Bool.and_eq_true, Bool.not_eq_true'] at hj2
      obtain ⟨oj, hoj, e, he, hb, hon⟩ := Region.waitsFor_spec hj2.2
      rcases List.mem_append.1 hj with hjr | hjt
      · cases hl : listed.getD j false with
        | true =>
          have h2 := inv.closed j oj hoj hl e he hb
          rw [hon, getD_both hun] at h2
          cases h2
        | false => exact sink_waits hc inv rest hs.2 (fun k hk => hlt k (List.mem_cons_of_mem _ hk)) j hjr hj2.1 (getD_in (by rw [inv.size]; exact hlt j (List.mem_cons_of_mem _ hjr)) hl)
      · have : j = t0 := by simpa using hjt
        subst this
        refine chain_waits T j hc inv.tail fun hr => ?_
        obtain ⟨_, ot, hot, hall⟩ := mem_ready.1 hr
        have : oj = ot := Option.some.inj (hoj.symm.trans hot)
        subst this
        have h2 := hall e he hb
        rw [hon, getD_both hun] at h2
        cases h2
    · exact sink_waits hc inv rest hs.2 (fun k hk => hlt k (List.mem_cons_of_mem _ hk)) i hi' hns hun

theorem wpAnyG_first {Q : Exit → Act → World → Prop} {T : List Nat} {i : Nat} {ns : List Nat} {oi : Oper} {v : Value} (hi : ops[i]? = some oi) (hsel : ∀ (j : Nat) (o : Oper) cs b, ops[j]? = some o → o.op ≠ .select cs b)
    (hin : i ∉ T) (hwait : ∀ listed, HeadI md ops T listed → ns.contains i = false → listed.getD i true = false → ∀ t ∈ T, t ∉ Region.ready md ops listed)
    (hQ : ns.contains i = true → ∀ c a w, Q (.panic c) (a.put oi.dst v) w → Q (.panic c) a w) :
    ∀ (f : Nat) (listed : Array Bool) (a : Act) (w : World), HeadI md ops T listed →
      (∀ j oj, ops[j]? = some oj → j ≠ i → listed.getD j true = false → (∀ e ∈ oj.after, Region.binds md e = true → e.on ≠ i) → oi.apart ops oj = true) →
      i ∈ Region.ready md ops listed → YieldsUp ρ P ops w oi v a → (ns.contains i = true → Yields P ops oi v a) →
      wpAnyG ρ P md ops Q T f (listed.setIfInBounds i true) (a.put oi.dst v) w → wpAnyG ρ P md ops Q T (f + 1) listed a w := by
  intro f
  induction f with
  | zero =>
    intro listed a w inv _ hr hy _ H W hW
    refine ⟨fun h => (by rw [h] at hr; cases hr), fun j hj => ?_⟩
    by_cases hji : j = i
    · subst hji; exact .inl (hy.ucOp hi hW fun W' hW' => wpAnyG_up H (ρ.trans hW hW'))
    · have := ready_mono hj hji
      rw [(H w (ρ.refl _)).1] at this
      cases this
  | succ f ih =>
    intro listed a w inv hfree hr hy hyn H W hW
    have hun := (mem_ready.1 hr).1
    refine ⟨fun h => (by rw [h] at hr; cases hr), fun j hj => ?_⟩
    by_cases hji : j = i
    · subst hji; exact .inl (hy.ucOp hi hW fun W' hW' => wpAnyG_up H (ρ.trans hW hW'))
    · have h1 := (H W hW).2 j (ready_mono hj hji)
      obtain ⟨hjun, oj, hoj, hall⟩ := mem_ready.1 hj
      have hnot : ∀ e ∈ oj.after, Region.binds md e = true → e.on ≠ i := fun e he hb heq => by
        have h1 := hall e he hb
        rw [heq, getD_both hun] at h1
        cases h1
      have hfree' : ∀ k ok, ops[k]? = some ok → k ≠ i → (listed.setIfInBounds j true).getD k true = false →
          (∀ e ∈ ok.after, Region.binds md e = true → e.on ≠ i) → oi.apart ops ok = true := fun k ok hk hki hun hno => by
        refine hfree k ok hk hki ?_ hno
        by_cases hjk : j = k
        · subst hjk; exact hjun
        · rw [getD_set_ne true hjk] at hun; exact hun
      by_cases hjT : j ∈ T
      · have hnsi : ns.contains i = true := by
          cases hc0 : ns.contains i with
          | true => rfl
          | false => exact absurd hj (hwait listed inv hc0 hun j hjT)
        have h1' : wpOp P ops Q j (wpAny P md ops Q f ((listed.setIfInBounds i true).setIfInBounds j true)) (a.put oi.dst v) W :=
          h1.elim (fun hu => wpOp_of_ucOp (fun a' W' _ h' => wpAny_of_G f _ a' W' h') hu) fun hw => hw.2
        have h2 := wpOp_put hoj (hfree j oj hoj hji hjun hnot) (fun cs b => hsel i oi cs b hi) (fun cs b => hsel j oj cs b hoj) (hQ hnsi) (hyn hnsi) h1'
        refine .inr ⟨hjT, wpOp_mono (fun a' W' h3 => wpAny_first hi hsel (hQ hnsi) f _ a' W' hfree' (ready_mono hr (Ne.symm hji)) h3.1 ?_) h2⟩
        rw [Array.setIfInBounds_comm _ _ hji]
        exact h3.2
      · have h1' : ucOp ρ P ops j (wpAnyG ρ P md ops Q T f ((listed.setIfInBounds i true).setIfInBounds j true)) (a.put oi.dst v) W :=
          h1.elim id fun hw => absurd hw.1 hjT
        have h2 : ucOp ρ P ops j (fun a' W' => (YieldsUp ρ P ops w oi v a' ∧ (ns.contains i = true → Yields P ops oi v a')) ∧ wpAnyG ρ P md ops Q T f ((listed.setIfInBounds i true).setIfInBounds j true) (a'.put oi.dst v) W') a W :=
          ucOp_put2 hoj (hfree j oj hoj hji hjun hnot) (fun cs b => hsel i oi cs b hi) (fun cs b => hsel j oj cs b hoj) hy hyn h1'
        refine .inl (ucOp_mono (fun a' W' hW' h3 => ih (listed.setIfInBounds j true) a' W' (inv.set hj hjT) hfree' (ready_mono hr (Ne.symm hji)) (h3.1.1.up (ρ.trans hW hW')) h3.1.2 ?_) h2)
        rw [Array.setIfInBounds_comm _ _ hji]
        exact h3.2

/-- The operations of numbers ix. -/
def getOps (l : List Oper) : List Nat → List Oper
  | [] => []
  | i :: r => match l[i]? with
    | some o => o :: getOps l r
    | none => getOps l r
theorem getOps_nil (l : List Oper) : getOps l [] = [] := rfl
theorem getOps_cons {l : List Oper} {i : Nat} {r : List Nat} {o : Oper} (h : l[i]? = some o) : getOps l (i :: r) = o :: getOps l r := by simp only [getOps, h]

/-- The head, taken in the order given. -/
def wpUp (ρ : Pre) (P : Program) (ops : Array Oper) (w : World) (Q : Act → World → Prop) (ns : List Nat) : List Nat → List Oper → Act → Prop
  | i :: ix, o :: rest, a => ∃ v, YieldsUp ρ P ops w o v a ∧ (ns.contains i = true → Yields P ops o v a) ∧ wpUp ρ P ops w Q ns ix rest (a.put o.dst v)
  | _, _, a => ∀ W, ρ.r w W → Q a W
/-- Operations that at most make memory, whatever they yield, in the order given. -/
def wpNew (ρ : Pre) (P : Program) (ops : Array Oper) (Q : Act → World → Prop) : List Oper → Act → World → Prop
  | o :: rest, a, w => ∀ W, ρ.r w W → if Region.wanted o (yielded ops a.tmps) then ucUpon ρ P o a W (wpNew ρ P ops Q rest) ((execOp a.eval o).run P W) else wpNew ρ P ops Q rest (a.put o.dst undef) W
  | [], a, w => ∀ W, ρ.r w W → Q a W

/-- Each of the tail is the only one that may come up. -/
def seqL (md : Region.Mode) (ops : Array Oper) : List Nat → Array Bool → Bool
  | [], listed => (Region.ready md ops listed).isEmpty
  | k :: r, listed => decide (Region.ready md ops listed = [k]) && (ops[k]?).isSome && seqL md ops r (listed.setIfInBounds k true)
def newL (md : Region.Mode) (ops : Array Oper) (T : List Nat) : List Nat → Array Bool → Bool
  | [], listed => seqL md ops T listed
  | k :: r, listed => decide (Region.ready md ops listed = [k]) && (ops[k]?).isSome && !T.contains k && newL md ops T r (listed.setIfInBounds k true)
def headL (md : Region.Mode) (ops : Array Oper) (N T : List Nat) : List Nat → Array Bool → Bool
  | [], listed => newL md ops T N listed
  | k :: r, listed => (Region.ready md ops listed).contains k && Region.free md ops listed k && !T.contains k && headL md ops N T r (listed.setIfInBounds k true)

theorem wpAny_of_seqL {Q : Exit → Act → World → Prop} {l : List Oper} : ∀ (ix : List Nat) (listed : Array Bool) (a : Act) (w : World),
    seqL md l.toArray ix listed = true → wpList P l.toArray Q (getOps l ix) a w → wpAny P md l.toArray Q ix.length listed a w
  | [], _, _, _, hB, h => ⟨by simpa [seqL] using hB, h⟩
  | k :: r, listed, a, w, hB, h => by
    simp only [seqL, Bool.and_eq_true, decide_eq_true_eq] at hB
    obtain ⟨⟨hr, ho⟩, hB'⟩ := hB
    obtain ⟨o, ho⟩ := Option.isSome_iff_exists.1 ho
    have ho' : l[k]? = some o := by simpa using ho
    rw [getOps_cons ho'] at h
    refine ⟨fun h1 => (by rw [hr] at h1; cases h1), fun i hi => ?_⟩
    rw [hr] at hi
    have hik : i = k := by simpa using hi
    subst hik
    have hw : wpOp P l.toArray Q i (wpList P l.toArray Q (getOps l r)) a w := by unfold wpOp; simp only [ho]; exact h
    exact wpOp_mono (fun a' w' h' => wpAny_of_seqL r _ a' w' hB' h') hw

theorem seqL_ready {T : List Nat} {listed : Array Bool} (h : seqL md ops T listed = true) : ∀ j ∈ Region.ready md ops listed, j ∈ T := by
  cases T with
  | nil => intro j hj; simp only [seqL, List.isEmpty_iff] at h; rw [h] at hj; cases hj
  | cons k r =>
    intro j hj
    simp only [seqL, Bool.and_eq_true, decide_eq_true_eq] at h
    rw [h.1.1] at hj
    have : j = k := by simpa using hj
    rw [this]; simp

theorem wpAnyG_new {Q : Exit → Act → World → Prop} {T : List Nat} {l : List Oper} : ∀ (ix : List Nat) (listed : Array Bool) (a : Act) (w : World),
    newL md l.toArray T ix listed = true → wpNew ρ P l.toArray (fun a' W => wpList P l.toArray Q (getOps l T) a' W) (getOps l ix) a w → wpAnyG ρ P md l.toArray Q T (ix.length + T.length) listed a w
  | [], listed, a, w, hB, h => by
    have hB' : seqL md l.toArray T listed = true := hB
    rw [List.length_nil, Nat.zero_add]
    exact G_of_wpAny (seqL_ready hB') fun W hW => wpAny_of_seqL T listed a W hB' (h W hW)
  | k :: r, listed, a, w, hB, h => by
    simp only [newL, Bool.and_eq_true, decide_eq_true_eq] at hB
    obtain ⟨⟨⟨hr, ho⟩, _⟩, hB'⟩ := hB
    obtain ⟨o, ho⟩ := Option.isSome_iff_exists.1 ho
    have ho' : l[k]? = some o := by simpa using ho
    rw [getOps_cons ho'] at h
    rw [List.length_cons, show r.length + 1 + T.length = (r.length + T.length) + 1 by omega]
    intro W hW
    refine ⟨fun h1 => (by rw [hr] at h1; cases h1), fun i hi => .inl ?_⟩
    rw [hr] at hi
    have hik : i = k := by simpa using hi
    subst hik
    have h' := h W hW
    unfold ucOp
    simp only [ho]
    split
    · rename_i hwt
      simp only [hwt, if_true] at h'
      exact ucUpon_mono (fun a' W' _ h3 => wpAnyG_new r _ a' W' hB' h3) h'
    · rename_i hwt
      simp only [hwt] at h'
      exact wpAnyG_new r _ _ _ hB' h'

theorem headL_lt {N T : List Nat} : ∀ {ix : List Nat} {listed : Array Bool}, headL md ops N T ix listed = true → ∀ j ∈ ix, j < ops.size
  | [], _, _, j, hj => by cases hj
  | k :: r, listed, hB, j, hj => by
    simp only [headL, Bool.and_eq_true] at hB
    rcases List.mem_cons.1 hj with rfl | hj'
    · have : j ∈ Region.ready md ops listed := by simpa using hB.1.1.1
      obtain ⟨_, o, ho, _⟩ := mem_ready.1 this
      exact (Array.getElem?_eq_some_iff.1 ho).1
    · exact headL_lt hB.2 j hj'

theorem wpAnyG_head {Q : Exit → Act → World → Prop} {l : List Oper} {N T : List Nat} {ns : List Nat} {w : World} (hsel : Region.noSelect l.toArray = true)
    (hQ : ∀ i, ns.contains i = true → ∀ d v c a w, Q (.panic c) (Act.put a d v) w → Q (.panic c) a w) :
    ∀ (ix : List Nat) (listed : Array Bool) (a : Act), (∀ i ∈ ix, ∀ listed, HeadI md l.toArray T listed → ns.contains i = false → listed.getD i true = false → ∀ t ∈ T, t ∉ Region.ready md l.toArray listed) →
    HeadI md l.toArray T listed → headL md l.toArray N T ix listed = true →
    wpUp ρ P l.toArray w (fun a' W => wpNew ρ P l.toArray (fun a' W => wpList P l.toArray Q (getOps l T) a' W) (getOps l N) a' W) ns ix (getOps l ix) a →
    wpAnyG ρ P md l.toArray Q T (ix.length + (N.length + T.length)) listed a w
  | [], listed, a, _, _, hB, h => by
    have hB' : newL md l.toArray T N listed = true := hB
    rw [List.length_nil, Nat.zero_add]
    exact wpAnyG_new N listed a w hB' (h w (ρ.refl _))
  | k :: r, listed, a, hwait, inv, hB, h => by
    simp only [headL, Bool.and_eq_true, Bool.not_eq_true'] at hB
    obtain ⟨⟨⟨hr, hf⟩, hT⟩, hB'⟩ := hB
    have hr' : k ∈ Region.ready md l.toArray listed := by simpa using hr
    obtain ⟨_, o, ho, _⟩ := mem_ready.1 hr'
    have ho' : l[k]? = some o := by simpa using ho
    rw [getOps_cons ho'] at h
    obtain ⟨v, hy, hyn, hK⟩ := h
    have hkT : k ∉ T := by simpa using hT
    rw [List.length_cons, show r.length + 1 + (N.length + T.length) = (r.length + (N.length + T.length)) + 1 by omega]
    exact wpAnyG_first ho (Region.noSelect_spec hsel) hkT (hwait k (by simp)) (fun hns c a w => hQ k hns o.dst v c a w) _ listed a w inv (Region.free_spec ho hf) hr' hy hyn
      (wpAnyG_head hsel hQ r _ _ (fun i hi => hwait i (List.mem_cons_of_mem _ hi)) (inv.set hr' hkT) hB' hK)

/-- What the law asks of a region, by the kernel. -/
def upB (md : Region.Mode) (ops : Array Oper) (ns D N : List Nat) (t : Nat) (T : List Nat) : Bool :=
  Region.noSelect ops && (D ++ N ++ t :: T).length == ops.size && chainL md ops (t :: T) && sinkL md ops ns t (D ++ N) && ((D ++ N).all fun i => decide (i < ops.size)) && headL md ops N (t :: T) D (Array.replicate ops.size false)

/-- THE LAW: the operations D by 'wpUp' (those of ns are waited for by nobody of the tail: they yield in whatever world), those of N at most make memory, t and T come last, in this order. -/
theorem region_upLg {id : Nat} {Q : Exit → Act → World → Prop} {a : Act} {w : World} {l : List Oper} (ns D N : List Nat) (t : Nat) (T : List Nat) (hm : P.follows .mixedOrders = true) (hB : upB .any l.toArray ns D N t T = true)
    (hQ : ∀ i, ns.contains i = true → ∀ d v c a w, Q (.panic c) (Act.put a d v) w → Q (.panic c) a w)
    (h : wpUp ρ P l.toArray w.drew (fun a' W => wpNew ρ P l.toArray (fun a' W => wpList P l.toArray Q (getOps l (t :: T)) a' W) (getOps l N) a' W) ns D (getOps l D) a) : (Code.region id l.toArray true).wp P Q a w := by
  simp only [upB, Bool.and_eq_true, beq_iff_eq] at hB
  obtain ⟨⟨⟨⟨⟨hsel, hlen⟩, hc⟩, hs⟩, hlt⟩, hB⟩ := hB
  have inv0 : HeadI .any l.toArray (t :: T) (Array.replicate l.toArray.size false) :=
    ⟨by simp, fun j oj _ hl => (by rw [getD_replicate_false] at hl; cases hl), fun u hu => by
      rcases Nat.lt_or_ge u l.toArray.size with h1 | h1
      · exact getD_in (by simpa using h1) (getD_replicate_false _ _)
      · exfalso
        have hno : ∀ (T : List Nat) (listed : Array Bool), seqL .any l.toArray T listed = true → ∀ x ∈ T, x < l.toArray.size := by
          intro T
          induction T with
          | nil => intro _ _ x hx; cases hx
          | cons k r ih =>
            intro listed hB x hx
            simp only [seqL, Bool.and_eq_true, decide_eq_true_eq] at hB
            rcases List.mem_cons.1 hx with rfl | hx'
            · obtain ⟨o, ho⟩ := Option.isSome_iff_exists.1 hB.1.2
              exact (Array.getElem?_eq_some_iff.1 ho).1
            · exact ih _ hB.2 x hx'
        have hnew : ∀ (N : List Nat) (listed : Array Bool), newL .any l.toArray (t :: T) N listed = true → ∃ listed', seqL .any l.toArray (t :: T) listed' = true := by
          intro N
          induction N with
          | nil => intro listed h; exact ⟨listed, h⟩
          | cons k r ih => intro listed h; simp only [newL, Bool.and_eq_true] at h; exact ih _ h.2
        have hhead : ∀ (D : List Nat) (listed : Array Bool), headL .any l.toArray N (t :: T) D listed = true → ∃ listed', seqL .any l.toArray (t :: T) listed' = true := by
          intro D
          induction D with
          | nil => intro listed h; exact hnew N listed h
          | cons k r ih => intro listed h; simp only [headL, Bool.and_eq_true] at h; exact ih _ h.2
        obtain ⟨listed', h2⟩ := hhead D _ hB
        have := hno _ _ h2 u hu
        omega⟩
  have H := wpAnyG_head (md := .any) (Q := Q) (ns := ns) hsel hQ D _ a
    (fun i hi listed inv hns hun u hu => sink_waits hc inv (D ++ N) hs (fun j hj => by have := List.all_eq_true.1 hlt j hj; simpa using this) i (List.mem_append_left _ hi) hns hun u hu) inv0 hB h
  refine wp_region_any hm ?_
  have := wpAny_of_G _ _ _ _ H
  rw [show l.toArray.size = D.length + (N.length + (t :: T).length) by rw [← hlen]; simp]
  rw [show l.toArray.size = D.length + (N.length + (t :: T).length) by rw [← hlen]; simp] at this
  exact this

theorem region_upL {id : Nat} {Q : Exit → Act → World → Prop} {a : Act} {w : World} {l : List Oper} (ns D N : List Nat) (t : Nat) (T : List Nat) (hm : P.follows .mixedOrders = true) (hB : upB .any l.toArray ns D N t T = true)
    (hQ : ∀ d v c a w, Q (.panic c) (Act.put a d v) w → Q (.panic c) a w)
    (h : wpUp upPre P l.toArray w.drew (fun a' W => wpNew upPre P l.toArray (fun a' W => wpList P l.toArray Q (getOps l (t :: T)) a' W) (getOps l N) a' W) ns D (getOps l D) a) : (Code.region id l.toArray true).wp P Q a w := region_upLg ns D N t T hm hB (fun _ _ => hQ) h
/-- Where the whole head is waited for: nothing is asked of the post. -/
theorem region_upL0 {id : Nat} {Q : Exit → Act → World → Prop} {a : Act} {w : World} {l : List Oper} (D N : List Nat) (t : Nat) (T : List Nat) (hm : P.follows .mixedOrders = true) (hB : upB .any l.toArray [] D N t T = true)
    (h : wpUp upPre P l.toArray w.drew (fun a' W => wpNew upPre P l.toArray (fun a' W => wpList P l.toArray Q (getOps l (t :: T)) a' W) (getOps l N) a' W) [] D (getOps l D) a) : (Code.region id l.toArray true).wp P Q a w := region_upLg [] D N t T hm hB (fun i hi => by simp at hi) h


theorem region_upR {id : Nat} {Q : Exit → Act → World → Prop} {a : Act} {w : World} {l : List Oper} (S : Nat → Prop) (D N : List Nat) (t : Nat) (T : List Nat) (hm : P.follows .mixedOrders = true) (hB : upB .any l.toArray [] D N t T = true)
    (h : wpUp (chgPre S) P l.toArray w.drew (fun a' W => wpNew (chgPre S) P l.toArray (fun a' W => wpList P l.toArray Q (getOps l (t :: T)) a' W) (getOps l N) a' W) [] D (getOps l D) a) : (Code.region id l.toArray true).wp P Q a w := region_upLg [] D N t T hm hB (fun i hi => by simp at hi) h
end
section steps
variable {P : Program} {ops : Array Oper} {w : World} {Q : Act → World → Prop} {a : Act} {ns ix : List Nat} {i : Nat} {o : Oper} {rest : List Oper} {v : Value}
theorem upUpon_value {W : World} {v u : Value} {W' : World} : upUpon upPre P W v (.ok (.value u) W') = (u = v ∧ Up W W') := rfl
theorem upUpon_enter {W : World} {v : Value} {f : FuncId} {args : Array Value} {W' : World} : upUpon upPre P W v (.ok (.enter f args) W') = Calls P f args W' (fun e W'' => e = .returned v ∧ Up W W'') := rfl
theorem upUpon_row {W : World} {v : Value} {row : String} {args : Array Value} {W' : World} : upUpon upPre P W v (.ok (.row row args) W') = Rows P row args W' (fun u W'' => u = v ∧ Up W W'') := rfl
theorem upUpon_skip {W : World} {v : Value} {W' : World} : upUpon upPre P W v (.ok .skip W') = (undef = v ∧ Up W W') := rfl
theorem chUpon_value {S : Nat → Prop} {W : World} {v u : Value} {W' : World} : upUpon (chgPre S) P W v (.ok (.value u) W') = (u = v ∧ Chg S W W') := rfl
theorem chUpon_enter {S : Nat → Prop} {W : World} {v : Value} {f : FuncId} {args : Array Value} {W' : World} : upUpon (chgPre S) P W v (.ok (.enter f args) W') = Calls P f args W' (fun e W'' => e = .returned v ∧ Chg S W W'') := rfl
theorem chUpon_skip {S : Nat → Prop} {W : World} {v : Value} {W' : World} : upUpon (chgPre S) P W v (.ok .skip W') = (undef = v ∧ Chg S W W') := rfl
theorem wpUp_nil (h : ∀ W, Up w W → Q a W) : wpUp upPre P ops w Q ns [] [] a := h
/-- One operation of the head. -/
theorem wpUp_step (hk : ns.contains i = false) (hg : o.guard = none)
    (h : ∀ W, Up w W → upUpon upPre P W v ((execOp a.eval o).run P W)) (hn : wpUp upPre P ops w Q ns ix rest (a.put o.dst v)) : wpUp upPre P ops w Q ns (i :: ix) (o :: rest) a :=
  ⟨v, .inl ⟨by simp [Region.wanted, hg], h⟩, fun h0 => (by rw [hk] at h0; cases h0), hn⟩
/-- One that yields in whatever world. -/
theorem wpUp_pure {ρ : Pre} (hg : o.guard = none)
    (h : ∀ W, (execOp a.eval o).run P W = .ok (.value v) W) (hn : wpUp ρ P ops w Q ns ix rest (a.put o.dst v)) : wpUp ρ P ops w Q ns (i :: ix) (o :: rest) a :=
  ⟨v, .inl ⟨by simp [Region.wanted, hg], fun W _ => by rw [h W]; exact ⟨rfl, ρ.refl _⟩⟩, fun _ => .inl ⟨by simp [Region.wanted, hg], h⟩, hn⟩
/-- One operation whose guard is met. -/
theorem wpUp_yes (hk : ns.contains i = false) (hw : Region.wanted o (yielded ops a.tmps) = true)
    (h : ∀ W, Up w W → upUpon upPre P W v ((execOp a.eval o).run P W)) (hn : wpUp upPre P ops w Q ns ix rest (a.put o.dst v)) : wpUp upPre P ops w Q ns (i :: ix) (o :: rest) a :=
  ⟨v, .inl ⟨hw, h⟩, fun h0 => (by rw [hk] at h0; cases h0), hn⟩
/-- One that is passed over. -/
theorem wpUp_no {ρ : Pre} (hw : Region.wanted o (yielded ops a.tmps) = false)
    (hn : wpUp ρ P ops w Q ns ix rest (a.put o.dst undef)) : wpUp ρ P ops w Q ns (i :: ix) (o :: rest) a :=
  ⟨undef, .inr ⟨hw, rfl⟩, fun _ => .inr ⟨hw, rfl⟩, hn⟩
theorem wpNew_nil (h : ∀ W, Up w W → Q a W) : wpNew upPre P ops Q [] a w := h
theorem wpNew_step (hg : o.guard = none) (h : ∀ W, Up w W → ∀ K : Act → World → Prop, (∀ a W, wpNew upPre P ops Q rest a W → K a W) → ucUpon upPre P o a W K ((execOp a.eval o).run P W)) : wpNew upPre P ops Q (o :: rest) a w :=
  fun W hW => by rw [if_pos (by simp [Region.wanted, hg])]; exact h W hW _ fun _ _ h => h
theorem ucUpon_value {W W' : World} {u : Value} {K : Act → World → Prop} : ucUpon upPre P o a W K (.ok (.value u) W') = (Up W W' ∧ K (a.put o.dst u) W') := rfl
theorem ucUpon_skip {W W' : World} {K : Act → World → Prop} : ucUpon upPre P o a W K (.ok .skip W') = (Up W W' ∧ K (a.put o.dst undef) W') := rfl
theorem ucUpon_enter {W W' : World} {f : FuncId} {args : Array Value} {K : Act → World → Prop} : ucUpon upPre P o a W K (.ok (.enter f args) W') = Calls P f args W' (fun e W'' => ∃ u, e = .returned u ∧ Up W W'' ∧ K (a.put o.dst u) W'') := rfl
theorem ucUpon_row {W W' : World} {row : String} {args : Array Value} {K : Act → World → Prop} : ucUpon upPre P o a W K (.ok (.row row args) W') = Rows P row args W' (fun u W'' => Up W W'' ∧ K (a.put o.dst u) W'') := rfl
/-! The same, where the blocks of S may turn. -/
variable {S : Nat → Prop}
theorem wpCh_nil (h : ∀ W, Chg S w W → Q a W) : wpUp (chgPre S) P ops w Q ns [] [] a := h
theorem wpCh_step (hk : ns.contains i = false) (hg : o.guard = none)
    (h : ∀ W, Chg S w W → upUpon (chgPre S) P W v ((execOp a.eval o).run P W)) (hn : wpUp (chgPre S) P ops w Q ns ix rest (a.put o.dst v)) : wpUp (chgPre S) P ops w Q ns (i :: ix) (o :: rest) a :=
  ⟨v, .inl ⟨by simp [Region.wanted, hg], h⟩, fun h0 => (by rw [hk] at h0; cases h0), hn⟩
theorem wpCh_yes (hk : ns.contains i = false) (hw : Region.wanted o (yielded ops a.tmps) = true)
    (h : ∀ W, Chg S w W → upUpon (chgPre S) P W v ((execOp a.eval o).run P W)) (hn : wpUp (chgPre S) P ops w Q ns ix rest (a.put o.dst v)) : wpUp (chgPre S) P ops w Q ns (i :: ix) (o :: rest) a :=
  ⟨v, .inl ⟨hw, h⟩, fun h0 => (by rw [hk] at h0; cases h0), hn⟩
theorem wpChNew_nil (h : ∀ W, Chg S w W → Q a W) : wpNew (chgPre S) P ops Q [] a w := h
theorem wpChNew_step (hg : o.guard = none) (h : ∀ W, Chg S w W → ∀ K : Act → World → Prop, (∀ a W, wpNew (chgPre S) P ops Q rest a W → K a W) → ucUpon (chgPre S) P o a W K ((execOp a.eval o).run P W)) : wpNew (chgPre S) P ops Q (o :: rest) a w :=
  fun W hW => by rw [if_pos (by simp [Region.wanted, hg])]; exact h W hW _ fun _ _ h => h
theorem ucChon_value {W W' : World} {u : Value} {K : Act → World → Prop} : ucUpon (chgPre S) P o a W K (.ok (.value u) W') = (Chg S W W' ∧ K (a.put o.dst u) W') := rfl
theorem ucChon_skip {W W' : World} {K : Act → World → Prop} : ucUpon (chgPre S) P o a W K (.ok .skip W') = (Chg S W W' ∧ K (a.put o.dst undef) W') := rfl
theorem ucChon_enter {W W' : World} {f : FuncId} {args : Array Value} {K : Act → World → Prop} : ucUpon (chgPre S) P o a W K (.ok (.enter f args) W') = Calls P f args W' (fun e W'' => ∃ u, e = .returned u ∧ Chg S W W'' ∧ K (a.put o.dst u) W'') := rfl
end steps
end Go.Proofs.YtalmjdlcogdpmaaGreatDoor

namespace Go.Proofs.YtalmjdlcogdpmaaGreatDoor
open Go.RowKit
def truV (b : Bool) : Int := if b then 1 else 0
theorem truth_u (b : Bool) (w : World) : Calls Tryz.prog 90 #[.bool b] w fun e w' => e = .returned (.int .i64 (truV b)) ∧ Up w w' := (truth_any b w).mono fun _ _ h => ⟨h.1, by rw [← h.2]; exact Up.refl _⟩
attribute [local go_sem] upUpon_value upUpon_enter upUpon_skip upUpon_row

set_option maxRecDepth 100000 in
set_option maxHeartbeats 400000 in
theorem halt_any (c : Nat) (vp vl : Value) (me seed : Int) (m : Msg) (s : Regs) (op a b x : Int) (v : Option Addr) (np cap : Nat) (w : World) (h : CpuIs w c vp vl me seed m s) (hvp : vp = .slice v np cap) :
    Calls Tryz.prog 69 #[.pointer (some ⟨c, 0, none⟩), .agg #[.int .i64 op, .int .i64 a, .int .i64 b, .int .i64 x]] w fun e w' => e = .returned (.tuple #[]) ∧ Stepped w w' c vp vl me seed m { s with at' := np } := by
  have hb := h.here
  have hu : ∀ (W : World) (cs : Array Value) (t : TypeId), Up W (W.alloc (.cells cs t)).drew := fun W cs t => (alloc_up W cs t).drew
  subst hvp
  have c_0 := h.n0
  have c_at := h.a
  have f_at := h.fr 29 (by omega)
  have H := Lib.hid h
  clear h
  go_enter Tryz.func69, Tryz.ntmps69
  go_wp2
  go_end0
  exact ⟨rfl, stepped_go H.out _ (by first | exact hu _ _ _ | exact alloc_up _ _ _ | exact Up.refl _)⟩

set_option maxRecDepth 100000 in
set_option maxHeartbeats 400000 in
theorem less_any (c : Nat) (vp vl : Value) (me seed : Int) (m : Msg) (s : Regs) (op : Int) (i j k : Nat) (w : World) (h : CpuIs w c vp vl me seed m s) (hi : i < 16) (hj : j < 16) (hk : k < 16) :
    Calls Tryz.prog 77 #[.pointer (some ⟨c, 0, none⟩), .agg #[.int .i64 op, .int .i64 (i : Nat), .int .i64 (j : Nat), .int .i64 (k : Nat)]] w fun e w' => e = .returned (.tuple #[]) ∧ Stepped w w' c vp vl me seed m { s with r := upd s.r i (truV (decide (s.r j < s.r k))) } := by
  have hb := h.here
  have b_i : (0 : Int) ≤ (i : Int) := by omega
  have b'_i : (i : Int) < 16 := by omega
  have b_j : (0 : Int) ≤ (j : Int) := by omega
  have b'_j : (j : Int) < 16 := by omega
  have b_k : (0 : Int) ≤ (k : Int) := by omega
  have b'_k : (k : Int) < 16 := by omega
  have hU := alloc_up w #[.int .i64 op, .int .i64 (i : Nat), .int .i64 (j : Nat), .int .i64 (k : Nat)] 123
  have p1 : (w.alloc (.cells #[.int .i64 op, .int .i64 (i : Nat), .int .i64 (j : Nat), .int .i64 (k : Nat)] 123)).cell? ⟨w.heap.size, 1, none⟩ = some (.int .i64 (i : Nat)) := by simp [go_sem]
  have p2 : (w.alloc (.cells #[.int .i64 op, .int .i64 (i : Nat), .int .i64 (j : Nat), .int .i64 (k : Nat)] 123)).cell? ⟨w.heap.size, 2, none⟩ = some (.int .i64 (j : Nat)) := by simp [go_sem]
  have p3 : (w.alloc (.cells #[.int .i64 op, .int .i64 (i : Nat), .int .i64 (j : Nat), .int .i64 (k : Nat)] 123)).cell? ⟨w.heap.size, 3, none⟩ = some (.int .i64 (k : Nat)) := by simp [go_sem]
  have H := Lib.hid h
  have hz0 : w.heap.size < (w.alloc (.cells #[.int .i64 op, .int .i64 (i : Nat), .int .i64 (j : Nat), .int .i64 (k : Nat)] 123)).heap.size := by simp
  clear h
  go_enter Tryz.func77, Tryz.ntmps77
  go_wp2
  generalize (w.alloc (.cells #[.int .i64 op, .int .i64 (i : Nat), .int .i64 (j : Nat), .int .i64 (k : Nat)] 123)) = W0 at *
  have hs := H.out.up hU
  have hbW : c < W0.heap.size := Nat.lt_trans hb hz0
  have k1 : ∀ W, Up W0.drew W → W.cell? ⟨w.heap.size, 1, none⟩ = some (.int .i64 (i : Nat)) := fun W h => cell_up (up_drew.trans h) p1
  have k2 : ∀ W, Up W0.drew W → W.cell? ⟨w.heap.size, 2, none⟩ = some (.int .i64 (j : Nat)) := fun W h => cell_up (up_drew.trans h) p2
  have k3 : ∀ W, Up W0.drew W → W.cell? ⟨w.heap.size, 3, none⟩ = some (.int .i64 (k : Nat)) := fun W h => cell_up (up_drew.trans h) p3
  have k4 : ∀ W, Up W0.drew W → W.cell? ⟨c, 11 + j, none⟩ = some (.int .i64 (s.r j)) := fun W h => cell_up (up_drew.trans h) (hs.rs j hj)
  have k5 : ∀ W, Up W0.drew W → W.cell? ⟨c, 11 + k, none⟩ = some (.int .i64 (s.r k)) := fun W h => cell_up (up_drew.trans h) (hs.rs k hk)
  refine region_upL [] [0, 1, 2, 3, 4, 5, 6, 7, 8, 9, 10, 11, 12, 13, 14, 15, 16, 17, 18, 19, 20, 21] [] 22 [] (by kernel_rfl) (by kernel_rfl) (fun d _ _ _ _ h => by cases d <;> exact h) ?_
  simp only [getOps, List.getElem?_cons_zero, List.getElem?_cons_succ]
  repeat (first | (apply wpUp_step rfl rfl; (focus (intro W hU; go_simp; first | exact ⟨rfl, Up.refl _⟩ | exact truth_u _ _))) | (apply wpUp_pure rfl; (focus (intro W; go_simp; rfl))); go_simp)
  refine wpUp_nil fun W0' hW0 => ?_
  refine wpNew_nil fun W hW1 => ?_
  have hW := hW0.trans hW1
  clear hW0 hW1
  have hs2 := (hs.up up_drew).up hW
  have hu2 := hU.trans (up_drew.trans hW)
  clear k1 k2 k3 k4 k5 p1 p2 p3 hW
  have c_i := hs2.rs i hi
  have f_i := hs2.fr (11 + i) (by omega)
  go_wp2
  go_end0
  exact ⟨rfl, ((Chg.refl (· = c) w).up hu2).setCell (Or.inl rfl) _, hs2.reg hi _⟩

set_option maxRecDepth 100000 in
set_option maxHeartbeats 400000 in
theorem same_any (c : Nat) (vp vl : Value) (me seed : Int) (m : Msg) (s : Regs) (op : Int) (i j k : Nat) (w : World) (h : CpuIs w c vp vl me seed m s) (hi : i < 16) (hj : j < 16) (hk : k < 16) :
    Calls Tryz.prog 78 #[.pointer (some ⟨c, 0, none⟩), .agg #[.int .i64 op, .int .i64 (i : Nat), .int .i64 (j : Nat), .int .i64 (k : Nat)]] w fun e w' => e = .returned (.tuple #[]) ∧ Stepped w w' c vp vl me seed m { s with r := upd s.r i (truV (s.r j == s.r k)) } := by
  have hb := h.here
  have b_i : (0 : Int) ≤ (i : Int) := by omega
  have b'_i : (i : Int) < 16 := by omega
  have b_j : (0 : Int) ≤ (j : Int) := by omega
  have b'_j : (j : Int) < 16 := by omega
  have b_k : (0 : Int) ≤ (k : Int) := by omega
  have b'_k : (k : Int) < 16 := by omega
  have hU := alloc_up w #[.int .i64 op, .int .i64 (i : Nat), .int .i64 (j : Nat), .int .i64 (k : Nat)] 123
  have p1 : (w.alloc (.cells #[.int .i64 op, .int .i64 (i : Nat), .int .i64 (j : Nat), .int .i64 (k : Nat)] 123)).cell? ⟨w.heap.size, 1, none⟩ = some (.int .i64 (i : Nat)) := by simp [go_sem]
  have p2 : (w.alloc (.cells #[.int .i64 op, .int .i64 (i : Nat), .int .i64 (j : Nat), .int .i64 (k : Nat)] 123)).cell? ⟨w.heap.size, 2, none⟩ = some (.int .i64 (j : Nat)) := by simp [go_sem]
  have p3 : (w.alloc (.cells #[.int .i64 op, .int .i64 (i : Nat), .int .i64 (j : Nat), .int .i64 (k : Nat)] 123)).cell? ⟨w.heap.size, 3, none⟩ = some (.int .i64 (k : Nat)) := by simp [go_sem]
  have H := Lib.hid h
  have hz0 : w.heap.size < (w.alloc (.cells #[.int .i64 op, .int .i64 (i : Nat), .int .i64 (j : Nat), .int .i64 (k : Nat)] 123)).heap.size := by simp
  clear h
  go_enter Tryz.func78, Tryz.ntmps78
  go_wp2
  generalize (w.alloc (.cells #[.int .i64 op, .int .i64 (i : Nat), .int .i64 (j : Nat), .int .i64 (k : Nat)] 123)) = W0 at *
  have hs := H.out.up hU
  have hbW : c < W0.heap.size := Nat.lt_trans hb hz0
  have k1 : ∀ W, Up W0.drew W → W.cell? ⟨w.heap.size, 1, none⟩ = some (.int .i64 (i : Nat)) := fun W h => cell_up (up_drew.trans h) p1
  have k2 : ∀ W, Up W0.drew W → W.cell? ⟨w.heap.size, 2, none⟩ = some (.int .i64 (j : Nat)) := fun W h => cell_up (up_drew.trans h) p2
  have k3 : ∀ W, Up W0.drew W → W.cell? ⟨w.heap.size, 3, none⟩ = some (.int .i64 (k : Nat)) := fun W h => cell_up (up_drew.trans h) p3
  have k4 : ∀ W, Up W0.drew W → W.cell? ⟨c, 11 + j, none⟩ = some (.int .i64 (s.r j)) := fun W h => cell_up (up_drew.trans h) (hs.rs j hj)
  have k5 : ∀ W, Up W0.drew W → W.cell? ⟨c, 11 + k, none⟩ = some (.int .i64 (s.r k)) := fun W h => cell_up (up_drew.trans h) (hs.rs k hk)
  refine region_upL [] [0, 1, 2, 3, 4, 5, 6, 7, 8, 9, 10, 11, 12, 13, 14, 15, 16, 17, 18, 19, 20, 21] [] 22 [] (by kernel_rfl) (by kernel_rfl) (fun d _ _ _ _ h => by cases d <;> exact h) ?_
  simp only [getOps, List.getElem?_cons_zero, List.getElem?_cons_succ]
  repeat (first | (apply wpUp_step rfl rfl; (focus (intro W hU; go_simp; first | exact ⟨rfl, Up.refl _⟩ | exact truth_u _ _))) | (apply wpUp_pure rfl; (focus (intro W; go_simp; rfl))); go_simp)
  refine wpUp_nil fun W0' hW0 => ?_
  refine wpNew_nil fun W hW1 => ?_
  have hW := hW0.trans hW1
  clear hW0 hW1
  have hs2 := (hs.up up_drew).up hW
  have hu2 := hU.trans (up_drew.trans hW)
  clear k1 k2 k3 k4 k5 p1 p2 p3 hW
  have c_i := hs2.rs i hi
  have f_i := hs2.fr (11 + i) (by omega)
  go_wp2
  go_end0
  exact ⟨rfl, ((Chg.refl (· = c) w).up hu2).setCell (Or.inl rfl) _, hs2.reg hi _⟩

set_option maxRecDepth 100000 in
set_option maxHeartbeats 400000 in
theorem div_any (c : Nat) (vp vl : Value) (me seed : Int) (m : Msg) (s : Regs) (op : Int) (i j k : Nat) (w : World) (h : CpuIs w c vp vl me seed m s) (hi : i < 16) (hj : j < 16) (hk : k < 16) :
    Calls Tryz.prog 75 #[.pointer (some ⟨c, 0, none⟩), .agg #[.int .i64 op, .int .i64 (i : Nat), .int .i64 (j : Nat), .int .i64 (k : Nat)]] w fun e w' => e = .returned (.tuple #[]) ∧ Stepped w w' c vp vl me seed m { s with r := upd s.r i (quoV (s.r j) (s.r k)) } := by
  have hb := h.here
  have b_i : (0 : Int) ≤ (i : Int) := by omega
  have b'_i : (i : Int) < 16 := by omega
  have b_j : (0 : Int) ≤ (j : Int) := by omega
  have b'_j : (j : Int) < 16 := by omega
  have b_k : (0 : Int) ≤ (k : Int) := by omega
  have b'_k : (k : Int) < 16 := by omega
  have hU := alloc_up w #[.int .i64 op, .int .i64 (i : Nat), .int .i64 (j : Nat), .int .i64 (k : Nat)] 123
  have p1 : (w.alloc (.cells #[.int .i64 op, .int .i64 (i : Nat), .int .i64 (j : Nat), .int .i64 (k : Nat)] 123)).cell? ⟨w.heap.size, 1, none⟩ = some (.int .i64 (i : Nat)) := by simp [go_sem]
  have p2 : (w.alloc (.cells #[.int .i64 op, .int .i64 (i : Nat), .int .i64 (j : Nat), .int .i64 (k : Nat)] 123)).cell? ⟨w.heap.size, 2, none⟩ = some (.int .i64 (j : Nat)) := by simp [go_sem]
  have p3 : (w.alloc (.cells #[.int .i64 op, .int .i64 (i : Nat), .int .i64 (j : Nat), .int .i64 (k : Nat)] 123)).cell? ⟨w.heap.size, 3, none⟩ = some (.int .i64 (k : Nat)) := by simp [go_sem]
  have H := Lib.hid h
  have hz0 : w.heap.size < (w.alloc (.cells #[.int .i64 op, .int .i64 (i : Nat), .int .i64 (j : Nat), .int .i64 (k : Nat)] 123)).heap.size := by simp
  clear h
  go_enter Tryz.func75, Tryz.ntmps75
  go_wp2
  generalize (w.alloc (.cells #[.int .i64 op, .int .i64 (i : Nat), .int .i64 (j : Nat), .int .i64 (k : Nat)] 123)) = W0 at *
  have hs := H.out.up hU
  have hbW : c < W0.heap.size := Nat.lt_trans hb hz0
  have k1 : ∀ W, Up W0.drew W → W.cell? ⟨w.heap.size, 1, none⟩ = some (.int .i64 (i : Nat)) := fun W h => cell_up (up_drew.trans h) p1
  have k2 : ∀ W, Up W0.drew W → W.cell? ⟨w.heap.size, 2, none⟩ = some (.int .i64 (j : Nat)) := fun W h => cell_up (up_drew.trans h) p2
  have k3 : ∀ W, Up W0.drew W → W.cell? ⟨w.heap.size, 3, none⟩ = some (.int .i64 (k : Nat)) := fun W h => cell_up (up_drew.trans h) p3
  have k4 : ∀ W, Up W0.drew W → W.cell? ⟨c, 11 + j, none⟩ = some (.int .i64 (s.r j)) := fun W h => cell_up (up_drew.trans h) (hs.rs j hj)
  have k5 : ∀ W, Up W0.drew W → W.cell? ⟨c, 11 + k, none⟩ = some (.int .i64 (s.r k)) := fun W h => cell_up (up_drew.trans h) (hs.rs k hk)
  refine region_upL [20] [0, 1, 2, 3, 4, 5, 6, 7, 8, 9, 10, 11, 12, 13, 14, 15, 16, 17, 18, 19, 20, 21, 22, 23] [] 24 [] (by kernel_rfl) (by kernel_rfl) (fun d _ _ _ _ h => by cases d <;> exact h) ?_
  simp only [getOps, List.getElem?_cons_zero, List.getElem?_cons_succ]
  repeat (first | (apply wpUp_step rfl rfl; (focus (intro W hU; go_simp; first | exact ⟨rfl, Up.refl _⟩ | exact quotient_any _ _ _))) | (apply wpUp_pure rfl; (focus (intro W; go_simp; rfl))); go_simp)
  refine wpUp_nil fun W0' hW0 => ?_
  refine wpNew_nil fun W hW1 => ?_
  have hW := hW0.trans hW1
  clear hW0 hW1
  have hs2 := (hs.up up_drew).up hW
  have hu2 := hU.trans (up_drew.trans hW)
  clear k1 k2 k3 k4 k5 p1 p2 p3 hW
  have c_i := hs2.rs i hi
  have f_i := hs2.fr (11 + i) (by omega)
  go_wp2
  go_end0
  exact ⟨rfl, ((Chg.refl (· = c) w).up hu2).setCell (Or.inl rfl) _, hs2.reg hi _⟩

set_option maxRecDepth 100000 in
set_option maxHeartbeats 400000 in
theorem mod_any (c : Nat) (vp vl : Value) (me seed : Int) (m : Msg) (s : Regs) (op : Int) (i j k : Nat) (w : World) (h : CpuIs w c vp vl me seed m s) (hi : i < 16) (hj : j < 16) (hk : k < 16) :
    Calls Tryz.prog 76 #[.pointer (some ⟨c, 0, none⟩), .agg #[.int .i64 op, .int .i64 (i : Nat), .int .i64 (j : Nat), .int .i64 (k : Nat)]] w fun e w' => e = .returned (.tuple #[]) ∧ Stepped w w' c vp vl me seed m { s with r := upd s.r i (remV (s.r j) (s.r k)) } := by
  have hb := h.here
  have b_i : (0 : Int) ≤ (i : Int) := by omega
  have b'_i : (i : Int) < 16 := by omega
  have b_j : (0 : Int) ≤ (j : Int) := by omega
  have b'_j : (j : Int) < 16 := by omega
  have b_k : (0 : Int) ≤ (k : Int) := by omega
  have b'_k : (k : Int) < 16 := by omega
  have hU := alloc_up w #[.int .i64 op, .int .i64 (i : Nat), .int .i64 (j : Nat), .int .i64 (k : Nat)] 123
  have p1 : (w.alloc (.cells #[.int .i64 op, .int .i64 (i : Nat), .int .i64 (j : Nat), .int .i64 (k : Nat)] 123)).cell? ⟨w.heap.size, 1, none⟩ = some (.int .i64 (i : Nat)) := by simp [go_sem]
  have p2 : (w.alloc (.cells #[.int .i64 op, .int .i64 (i : Nat), .int .i64 (j : Nat), .int .i64 (k : Nat)] 123)).cell? ⟨w.heap.size, 2, none⟩ = some (.int .i64 (j : Nat)) := by simp [go_sem]
  have p3 : (w.alloc (.cells #[.int .i64 op, .int .i64 (i : Nat), .int .i64 (j : Nat), .int .i64 (k : Nat)] 123)).cell? ⟨w.heap.size, 3, none⟩ = some (.int .i64 (k : Nat)) := by simp [go_sem]
  have H := Lib.hid h
  have hz0 : w.heap.size < (w.alloc (.cells #[.int .i64 op, .int .i64 (i : Nat), .int .i64 (j : Nat), .int .i64 (k : Nat)] 123)).heap.size := by simp
  clear h
  go_enter Tryz.func76, Tryz.ntmps76
  go_wp2
  generalize (w.alloc (.cells #[.int .i64 op, .int .i64 (i : Nat), .int .i64 (j : Nat), .int .i64 (k : Nat)] 123)) = W0 at *
  have hs := H.out.up hU
  have hbW : c < W0.heap.size := Nat.lt_trans hb hz0
  have k1 : ∀ W, Up W0.drew W → W.cell? ⟨w.heap.size, 1, none⟩ = some (.int .i64 (i : Nat)) := fun W h => cell_up (up_drew.trans h) p1
  have k2 : ∀ W, Up W0.drew W → W.cell? ⟨w.heap.size, 2, none⟩ = some (.int .i64 (j : Nat)) := fun W h => cell_up (up_drew.trans h) p2
  have k3 : ∀ W, Up W0.drew W → W.cell? ⟨w.heap.size, 3, none⟩ = some (.int .i64 (k : Nat)) := fun W h => cell_up (up_drew.trans h) p3
  have k4 : ∀ W, Up W0.drew W → W.cell? ⟨c, 11 + j, none⟩ = some (.int .i64 (s.r j)) := fun W h => cell_up (up_drew.trans h) (hs.rs j hj)
  have k5 : ∀ W, Up W0.drew W → W.cell? ⟨c, 11 + k, none⟩ = some (.int .i64 (s.r k)) := fun W h => cell_up (up_drew.trans h) (hs.rs k hk)
  refine region_upL [19] [0, 1, 2, 3, 4, 5, 6, 7, 8, 9, 10, 11, 12, 13, 14, 15, 16, 17, 18, 19, 20, 21, 22, 23] [] 24 [] (by kernel_rfl) (by kernel_rfl) (fun d _ _ _ _ h => by cases d <;> exact h) ?_
  simp only [getOps, List.getElem?_cons_zero, List.getElem?_cons_succ]
  repeat (first | (apply wpUp_step rfl rfl; (focus (intro W hU; go_simp; first | exact ⟨rfl, Up.refl _⟩ | exact quotient_any _ _ _))) | (apply wpUp_pure rfl; (focus (intro W; go_simp; rfl))); go_simp)
  refine wpUp_nil fun W0' hW0 => ?_
  refine wpNew_nil fun W hW1 => ?_
  have hW := hW0.trans hW1
  clear hW0 hW1
  have hs2 := (hs.up up_drew).up hW
  have hu2 := hU.trans (up_drew.trans hW)
  clear k1 k2 k3 k4 k5 p1 p2 p3 hW
  have c_i := hs2.rs i hi
  have f_i := hs2.fr (11 + i) (by omega)
  go_wp2
  go_end0
  exact ⟨rfl, ((Chg.refl (· = c) w).up hu2).setCell (Or.inl rfl) _, hs2.reg hi _⟩
end Go.Proofs.YtalmjdlcogdpmaaGreatDoor

namespace Go.Proofs.YtalmjdlcogdpmaaGreatDoor
open Go Go.RowKit

/-- A slice whose n elements are the cells xs, in a row that may be appended to. -/
def OwnR (w : World) (e : TypeId) (size : Nat) (v : Value) (n : Nat) (xs : List Value) : Prop :=
  xs.length = n * size ∧
  ((v = .slice none 0 0 ∧ n = 0) ∨
   ∃ g cap cur, v = .slice (some ⟨g, 0, none⟩) n cap ∧ w.heap[g]? = some (.cells cur e (0, 0)) ∧ n ≤ cap ∧ cap ≤ maxLen ∧ cap * size ≤ cur.size ∧ cur.toList.take (n * size) = xs)
/-- A slice whose n elements can be read: the cells news. -/
def SrcR (w : World) (v : Value) (m : Nat) (news : List Value) : Prop :=
  (∃ c, v = .slice none 0 c ∧ m = 0 ∧ news = []) ∨ ∃ a c, v = .slice (some a) m c ∧ ∀ j u, news[j]? = some u → w.cell? (a.add j) = some u
def sameBlock (v : Value) (k : Nat) : Prop := v.ownBlock = some k

section
variable {w w' : World} {e : TypeId} {size : Nat} {v : Value} {n : Nat} {xs : List Value}
theorem OwnR.nil (w : World) (e : TypeId) (size : Nat) : OwnR w e size (.slice none 0 0) 0 [] := ⟨by simp, .inl ⟨rfl, rfl⟩⟩
theorem OwnR.block_lt (h : OwnR w e size v n xs) : ∀ k, sameBlock v k → k < w.heap.size := by
  intro k hk
  rcases h.2 with ⟨rfl, _⟩ | ⟨g, cap, cur, rfl, hg, _⟩
  · simp [sameBlock, Value.ownBlock] at hk
  · simp [sameBlock, Value.ownBlock] at hk
    subst hk
    exact (Array.getElem?_eq_some_iff.1 hg).1
theorem OwnR.chg {S : Nat → Prop} (h : OwnR w e size v n xs) (hc : Chg S w w') (hn : ∀ k, sameBlock v k → ¬ S k) : OwnR w' e size v n xs := by
  refine ⟨h.1, ?_⟩
  rcases h.2 with hn' | ⟨g, cap, cur, rfl, hg, rest⟩
  · exact .inl hn'
  · refine .inr ⟨g, cap, cur, rfl, ?_, rest⟩
    rw [hc.block g (Array.getElem?_eq_some_iff.1 hg).1 (hn g rfl)]
    exact hg
theorem OwnR.up (h : OwnR w e size v n xs) (hu : Up w w') : OwnR w' e size v n xs := h.chg (S := fun _ => False) (.of_up hu) fun _ _ e => e
theorem OwnR.cell (h : OwnR w e size v n xs) {g : Nat} (hg : sameBlock v g) : ∀ j u, xs[j]? = some u → w.cell? ⟨g, j, none⟩ = some u := by
  intro j u hu
  rcases h.2 with ⟨rfl, _⟩ | ⟨g', cap, cur, rfl, hgg, _, _, _, htake⟩
  · simp [sameBlock, Value.ownBlock] at hg
  · simp [sameBlock, Value.ownBlock] at hg
    subst hg
    rw [cell_of_row w g' j cur e (0, 0) hgg]
    rw [← htake, List.getElem?_take] at hu
    split at hu
    · simpa using hu
    · cases hu
theorem OwnR.frozen (h : OwnR w e size v n xs) {g : Nat} (hg : sameBlock v g) (j : Nat) : w.frozen? ⟨g, j, none⟩ = false := by
  rcases h.2 with ⟨rfl, _⟩ | ⟨g', cap, cur, rfl, hgg, _⟩
  · simp [sameBlock, Value.ownBlock] at hg
  · simp [sameBlock, Value.ownBlock] at hg
    subst hg
    simp [World.frozen?, hgg]
theorem OwnR.src (h : OwnR w e size v n xs) : SrcR w v n xs := by
  rcases h.2 with ⟨rfl, rfl⟩ | ⟨g, cap, cur, rfl, hgg, hr⟩
  · exact .inl ⟨0, rfl, rfl, List.eq_nil_of_length_eq_zero (by simpa using h.1)⟩
  · refine .inr ⟨⟨g, 0, none⟩, cap, rfl, fun j u hu => ?_⟩
    have := h.cell (g := g) rfl j u hu
    have hadd : (⟨g, 0, none⟩ : Addr).add j = ⟨g, j, none⟩ := by unfold Addr.add; split <;> simp_all
    rw [hadd]; exact this
theorem OwnR.is (h : OwnR w e size v n xs) : v = .slice none 0 0 ∧ n = 0 ∨ ∃ g cap, v = .slice (some ⟨g, 0, none⟩) n cap ∧ n ≤ cap := by
  rcases h.2 with h' | ⟨g, cap, cur, hv, _, hc, _⟩
  · exact .inl h'
  · exact .inr ⟨g, cap, hv, hc⟩
theorem OwnR.pos (h : OwnR w e size v n xs) (h0 : 0 < n) : ∃ g cap, v = .slice (some ⟨g, 0, none⟩) n cap := by
  rcases h.is with ⟨_, h'⟩ | ⟨g, cap, hv, _⟩
  · omega
  · exact ⟨g, cap, hv⟩
theorem OwnR.setRow_new {g : Nat} {cur : Array Value} (hg : w.heap[g]? = some (.cells cur e (0, 0))) (cs : Array Value) : Chg (· = g) w (w.setRow g cs) :=
  ⟨rfl, rfl, rfl, by simp, fun k _ hn => setRow_other w g k cs hn, fun a => by
    by_cases ha : a.block = g
    · subst ha
      simp [World.frozen?, hg, setRow_heap w a.block cur cs e (0, 0) hg]
    · simp [World.frozen?, setRow_other w g a.block cs ha]⟩
theorem SrcR.up (h : SrcR w v n xs) (hu : Up w w') : SrcR w' v n xs := by
  rcases h with h | ⟨a, c, hv, hc⟩
  · exact .inl h
  · exact .inr ⟨a, c, hv, fun j u hj => cell_up hu (hc j u hj)⟩
end

section
variable {P : Program} {w : World}
/-- append(v, x..): in the row or in a new one. -/
theorem run_append_chg (t ty e : TypeId) (i : TypeInfo) (z : Value) (size bytes : Nat) (ht : P.underlying t = some (.slice e)) (hi : P.info? e = some i) (hz : i.zero = some z)
    (hsize : i.size = size) (hby : i.bytes = bytes) (hzs : z.cells.size = size) (hsz : 0 < size)
    (v : Value) (n : Nat) (xs : List Value) (hown : OwnR w e size v n xs)
    (x : Value) (m : Nat) (news : List Value) (hl : news.length = m * size) (hx : SrcR w x m news) (h1 : ∀ u ∈ news, u.oneCell' = true)
    (h63 : n + m ≤ maxLen) (hbytes : (n + m) * bytes ≤ 140737488355328) :
    ∃ v' w', (Builtin.append_ #[t, t] ty #[v, x]).run P w = .ok v' w' ∧ OwnR w' e size v' (n + m) (xs ++ news) ∧ Chg (sameBlock v) w w' ∧ (∀ k, sameBlock v' k → sameBlock v k ∨ w.heap.size ≤ k) := by
  subst hsize
  subst hby
  have hsmall : n + m ≤ 9223372036854775807 := by simp only [maxLen] at h63; omega
  have hlen : (xs ++ news).length = (n + m) * i.size := by rw [List.length_append, hown.1, hl, Nat.add_mul]
  rcases hx with ⟨c, rfl, rfl, rfl⟩ | ⟨a, c, rfl, hnews⟩
  · refine ⟨v, w, ?_, by simpa using hown, Chg.refl _ _, fun k hk => .inl hk⟩
    rcases hown.is with ⟨rfl, rfl⟩ | ⟨g, cap, rfl, hc⟩
    · simp [Builtin.append_, run_underlying ht, sizeOf, typeInfo, hi, Builtin.lenOf, Builtin.firstCells]
    · simp [Builtin.append_, run_underlying ht, sizeOf, typeInfo, hi, Builtin.lenOf, Builtin.firstCells, hc, storeCells]
  have grown : ∀ (old : Nat), old < n + m →
      OwnR (w.drew.alloc (.cells (xs.toArray ++ news.toArray ++ Builtin.zeroCells z.cells (grownCap w (n + m) old e - (n + m))) e)) e i.size
        (.slice (some ⟨w.heap.size, 0, none⟩) (n + m) (grownCap w (n + m) old e)) (n + m) (xs ++ news) := by
    intro old ho
    have hge := grownCap_ge w (n + m) old e
    have hcm : grownCap w (n + m) old e ≤ maxLen := grownCap_le_maxLen w (n + m) old e h63
    refine ⟨hlen, .inr ⟨w.heap.size, _, _, rfl, heap_alloc_new w.drew _, hge, hcm, ?_, ?_⟩⟩
    · simp only [Array.size_append, List.size_toArray, size_zeroCells, hzs, hown.1, hl, ← Nat.add_mul]
      exact Nat.le_of_eq (by congr 1; omega)
    · simp only [Array.toList_append, List.append_assoc]
      rw [← List.append_assoc, ← hlen]
      exact List.take_left
  have grownC : ∀ (old : Nat), Chg (sameBlock v) w (w.drew.alloc (.cells (xs.toArray ++ news.toArray ++ Builtin.zeroCells z.cells (grownCap w (n + m) old e - (n + m))) e)) := fun old => .of_up (up_drew.trans (alloc_up _ _ _))
  rcases hown.2 with ⟨rfl, rfl⟩ | ⟨g, cap, cur, rfl, hg, hnc, hcm, hcs, htake⟩
  · have hx : xs = [] := List.eq_nil_of_length_eq_zero (by simpa using hown.1)
    subst hx
    by_cases hm : m = 0
    · subst hm
      have hn : news = [] := List.eq_nil_of_length_eq_zero (by simpa using hl)
      subst hn
      refine ⟨.slice none 0 0, w, ?_, OwnR.nil w e i.size, Chg.refl _ _, fun k hk => .inl hk⟩
      simp [Builtin.append_, run_underlying ht, sizeOf, typeInfo, hi, Builtin.lenOf, Builtin.firstCells, loadCells, loadCellsFrom]
    · have hr := run_append_nil (P := P) w t ty e i z ht hi hz a m c news hl hnews (by omega) (by omega) (by have hb := hbytes; simp only [Nat.zero_add] at hb; omega)
      have hgr := grown 0 (by omega)
      have hgc := grownC 0
      simp only [Nat.zero_add, List.nil_append, Array.empty_append] at hgr hgc ⊢
      exact ⟨_, _, hr, hgr, hgc, fun k hk => by simp [sameBlock, Value.ownBlock] at hk; exact .inr (by omega)⟩
  · by_cases hroom : n + m ≤ cap
    · have hle : (n + m) * i.size ≤ cur.size := Nat.le_trans (Nat.mul_le_mul_right _ hroom) hcs
      have hfit : n * i.size + news.length ≤ cur.size := by rw [hl, ← Nat.add_mul]; exact hle
      have hr := run_append_room (P := P) w t ty e i ht hi g n cap cur hg a m c news hl hnews h1 hroom hfit
      refine ⟨_, _, hr, ⟨hlen, .inr ⟨g, cap, _, rfl, setRow_heap w g cur _ e _ hg, hroom, hcm, ?_, ?_⟩⟩, (OwnR.setRow_new hg _).mono (fun k _ hk => by subst hk; rfl), fun k hk => .inl hk⟩
      · simp only [List.size_toArray, List.length_append, List.length_take, List.length_drop, Array.length_toList]
        omega
      · rw [htake, ← hlen]
        exact List.take_left
    · have holds : ∀ j u, xs[j]? = some u → w.cell? ((⟨g, 0, none⟩ : Addr).add j) = some u := fun j u hj => by
        have hadd : (⟨g, 0, none⟩ : Addr).add j = ⟨g, j, none⟩ := by unfold Addr.add; split <;> simp_all
        rw [hadd]
        exact hown.cell (g := g) rfl j u hj
      have hr := run_append_grow (P := P) w t ty e i z ht hi hz ⟨g, 0, none⟩ n cap xs hown.1 holds a m c news hl hnews (by omega) (by omega) (growslice_fits (by omega) hbytes)
      exact ⟨_, _, hr, grown cap (by omega), grownC cap, fun k hk => by simp [sameBlock, Value.ownBlock] at hk; exact .inr (by omega)⟩

/-- The same, at an operation of a list. -/
theorem wpList_append_chg {ops : Array Oper} {rest : List Oper} {o : Oper} {a : Act} {Q : Exit → Act → World → Prop} (hgd : o.guard = none) (s x : Operand) (t : TypeId)
    (ho : o.op = .call { callee := .builtin .append, args := #[s, x], argTypes := #[t, t] })
    (e : TypeId) (i : TypeInfo) (z : Value) (size bytes : Nat) (ht : P.underlying t = some (.slice e)) (hi : P.info? e = some i) (hz : i.zero = some z)
    (hsize : i.size = size) (hby : i.bytes = bytes) (hzs : z.cells.size = size) (hsz : 0 < size)
    (v : Value) (n : Nat) (xs : List Value) (hs : a.eval s = v) (hown : OwnR w e size v n xs)
    (xv : Value) (m : Nat) (news : List Value) (hx : a.eval x = xv) (hl : news.length = m * size) (hnews : SrcR w xv m news) (h1 : ∀ u ∈ news, u.oneCell' = true)
    (h63 : n + m ≤ maxLen) (hbytes : (n + m) * bytes ≤ 140737488355328)
    (h : ∀ v' w', OwnR w' e size v' (n + m) (xs ++ news) → Chg (sameBlock v) w w' → (∀ k, sameBlock v' k → sameBlock v k ∨ w.heap.size ≤ k) → wpList P ops Q rest (a.put o.dst v') w') : wpList P ops Q (o :: rest) a w := by
  refine wpList_plain hgd fun _ hK => ?_
  obtain ⟨v', w', hr, h2, h3, h4⟩ := run_append_chg (P := P) t o.type e i z size bytes ht hi hz hsize hby hzs hsz v n xs hown xv m news hl hnews h1 h63 hbytes
  unfold Oper.wp execOp
  simp only [ho, resolve, invoke, builtin, Sem.run_bind, Sem.run_pure, Result.andThen_ok, List.map_toArray, List.map_cons, List.map_nil, hs, hx, hr]
  exact hK _ _ (h v' w' h2 h3 h4)
theorem Chg.up_nil {v : Value} {w w' : World} (h : Chg (sameBlock v) w w') (hv : v.ownBlock = none) : Up w w' := h.to_up fun k _ hk => by simp [sameBlock, hv] at hk
end
end Go.Proofs.YtalmjdlcogdpmaaGreatDoor

namespace Go.Proofs.YtalmjdlcogdpmaaGreatDoor
open Go.RowKit

structure Out where
  k : Int
  d : Int
  v : Int
def outCells (l : List Out) : List Value := l.flatMap fun x => [.int .i64 x.k, .int .i64 x.d, .int .i64 x.v]
theorem outCells_snoc (l : List Out) (x : Out) : outCells (l ++ [x]) = outCells l ++ [.int .i64 x.k, .int .i64 x.d, .int .i64 x.v] := by simp [outCells]
theorem outCells_length (l : List Out) : (outCells l).length = l.length * 3 := by
  induction l with
  | nil => rfl
  | cons x l ih => simp only [outCells, List.flatMap_cons, List.length_append, List.length_cons, List.length_nil] at *; rw [ih]; omega
/-- The link that a number picks. -/
def pickK (r : Int) (nl : Nat) : Nat := (r % nl).toNat
theorem pick_lt {r : Int} {nl : Nat} (h : 0 < nl) : pickK r nl < nl := by
  unfold pickK
  have h1 := Int.emod_nonneg r (show (nl : Int) ≠ 0 by omega)
  have h2 := Int.emod_lt_of_pos r (show (0 : Int) < nl by omega)
  omega
theorem pick_eq {r : Int} {nl : Nat} (h : 0 < nl) : (r.tmod nl + nl).tmod nl = (pickK r nl : Int) := by
  unfold pickK
  have h1 := Int.emod_nonneg r (show (nl : Int) ≠ 0 by omega)
  have h2 := Int.emod_lt_of_pos r (show (0 : Int) < nl by omega)
  have h3 : -(nl : Int) < r.tmod nl := by have := Int.lt_tmod_of_pos r (show (0 : Int) < nl by omega); omega
  rw [Int.tmod_eq_emod_of_nonneg (by omega), Int.toNat_of_nonneg h1, Int.add_emod_right]
  rw [Int.tmod_eq_emod]
  split
  · simp
  · simp [Int.sub_emod]
theorem tmod_bd {r : Int} {nl : Nat} (h : 0 < nl) (h2 : nl ≤ 1024) : -1024 ≤ r.tmod nl ∧ r.tmod nl ≤ 1024 := by
  have := Int.lt_tmod_of_pos r (show (0 : Int) < nl by omega)
  have := Int.tmod_lt_of_pos r (show (0 : Int) < nl by omega)
  omega

set_option maxRecDepth 100000 in
set_option maxHeartbeats 400000 in
/-- No link, or no room. -/
theorem send_skip (c : Nat) (vp : Value) (pl : Option Addr) (nl cl : Nat) (po : Option Addr) (no co : Nat) (me seed : Int) (m : Msg) (s : Regs) (op : Int) (i j k : Nat) (w : World) (h : CpuIs w c vp (.slice pl nl cl) me seed m s) (ho : s.vo = .slice po no co) (hs : nl = 0 ∨ no = 8) :
    Calls Tryz.prog 81 #[.pointer (some ⟨c, 0, none⟩), .agg #[.int .i64 op, .int .i64 (i : Nat), .int .i64 (j : Nat), .int .i64 (k : Nat)]] w fun e w' => e = .returned (.tuple #[]) ∧ Up w w' := by
  have hb := h.here
  have c_l := h.n2
  have c_o := h.o
  rw [ho] at c_o
  have hu : ∀ (W : World) (cs : Array Value) (t : TypeId), Up W (W.alloc (.cells cs t)) := fun W cs t => alloc_up W cs t
  clear h ho
  by_cases h0 : nl = 0
  · subst h0
    go_enter Tryz.func81, Tryz.ntmps81
    go_wp2
    refine bodyPost_ret (results_none rfl _ _ _) rfl ?_
    exact ⟨rfl, hu _ _ _⟩
  · obtain rfl : no = 8 := by omega
    have hd : decide ((nl : Int) = 0) = false := decide_eq_false (by omega)
    have hd' : ((nl : Int) == 0) = false := by simpa using h0
    clear hs h0
    go_enter Tryz.func81, Tryz.ntmps81
    go_wp2
    all_goals refine bodyPost_ret (results_none rfl _ _ _) rfl ?_
    all_goals exact ⟨rfl, hu _ _ _⟩

theorem LnkSlice.at' {w : World} {pl : Option Addr} {nl cl : Nat} {l : Nat → Lnk} (h : LnkSlice w (.slice pl nl cl) nl l) (h0 : 0 < nl) : ∃ b o, pl = some ⟨b, o, none⟩ ∧ LnkRow w b o nl l := by
  rcases h with ⟨b, o, cap, hv, hr⟩ | ⟨_, hn⟩
  · injection hv with h1 _ _; exact ⟨b, o, h1, hr⟩
  · omega

theorem set3 {W : World} {B : Nat} {u0 u1 u2 : Value} (h0 : W.cell? ⟨B, 0, none⟩ = some u0) (h1 : W.cell? ⟨B, 1, none⟩ = some u1) (h2 : W.cell? ⟨B, 2, none⟩ = some u2) (v0 v1 v2 : Value) :
    (((W.setCell ⟨B, 0, none⟩ v0).setCell ⟨B, 1, none⟩ v1).setCell ⟨B, 2, none⟩ v2).cell? ⟨B, 0, none⟩ = some v0 ∧ (((W.setCell ⟨B, 0, none⟩ v0).setCell ⟨B, 1, none⟩ v1).setCell ⟨B, 2, none⟩ v2).cell? ⟨B, 1, none⟩ = some v1 ∧ (((W.setCell ⟨B, 0, none⟩ v0).setCell ⟨B, 1, none⟩ v1).setCell ⟨B, 2, none⟩ v2).cell? ⟨B, 2, none⟩ = some v2 :=
  ⟨cell_off' (by omega) (cell_off' (by omega) (World.cell?_setCell_same _ _ _ h0)), cell_off' (by omega) (World.cell?_setCell_same _ _ _ (cell_off' (by omega) h1)), World.cell?_setCell_same _ _ _ (cell_off' (by omega) (cell_off' (by omega) h2))⟩
/-- The number of send's fault: 0: none. -/
def sendF (l : Nat → Lnk) (nl : Nat) (t ra rb : Int) : Int := if rb < (l (pickK ra nl)).look then 50 else addE t rb
theorem add_up (t d : Int) (w : World) : Calls Tryz.prog 91 #[.int .i64 t, .int .i64 d] w fun e w' => e = .returned (.tuple #[.int .i64 (addV t d), .int .i64 (addE t d)]) ∧ Up w w' := (add_any t d w).mono fun _ _ h => ⟨h.1, by rw [← h.2]; exact Up.refl _⟩
theorem infoOut : (Tryz.prog.info? 146).map (fun i => (i.zero, i.size, i.bytes)) = some (some (.agg #[.int .i64 0, .int .i64 0, .int .i64 0]), 3, 24) := by kernel_rfl
theorem src3 {W : World} {b : Nat} {x y z : Value} (h0 : W.cell? ⟨b, 0, none⟩ = some x) (h1 : W.cell? ⟨b, 1, none⟩ = some y) (h2 : W.cell? ⟨b, 2, none⟩ = some z) : SrcR W (.slice (some ⟨b, 0, none⟩) 1 1) 1 [x, y, z] :=
  .inr ⟨_, 1, rfl, fun j u hj => by
    rcases j with _ | _ | _ | j
    · injection hj with hj; subst hj; exact h0
    · injection hj with hj; subst hj; exact h1
    · injection hj with hj; subst hj; exact h2
    · simp at hj⟩
/-- What send leaves: a fault, or a further message sent. -/
def SendPost (c : Nat) (vp vl : Value) (l : Nat → Lnk) (nl : Nat) (outs : List Out) (me seed : Int) (m : Msg) (s : Regs) (i j k : Nat) (w : World) (e : Ending) (w' : World) : Prop :=
  (sendF l nl m.t (s.r i) (s.r j) ≠ 0 ∧ e = .panicked [{ v := .iface 140 (.agg #[.int .i64 s.at', .int .i64 (sendF l nl m.t (s.r i) (s.r j))]), recovered := false }] ∧ Up w w') ∨
  (sendF l nl m.t (s.r i) (s.r j) = 0 ∧ e = .returned (.tuple #[]) ∧ ∃ vo', Chg (fun x => x = c ∨ sameBlock s.vo x) w w' ∧ CpuIs w' c vp vl me seed m { s with vo := vo' } ∧
    OwnR w' 146 3 vo' (outs.length + 1) (outCells (outs ++ [⟨pickK (s.r i) nl, s.r j, s.r k⟩])) ∧ ∀ x, sameBlock vo' x → sameBlock s.vo x ∨ w.heap.size ≤ x)
theorem lift {W0 : World} {a : Addr} {v : Value} (h : W0.cell? a = some v) : ∀ W, Up W0.drew W → W.cell? a = some v := fun _ hW => cell_up (up_drew.trans hW) h
attribute [local go_sem] upUpon_value upUpon_enter upUpon_skip upUpon_row ucUpon_value ucUpon_skip ucUpon_enter ucUpon_row
set_option maxRecDepth 100000 in
set_option maxHeartbeats 1000000 in
theorem send_go (c : Nat) (vp : Value) (pl : Option Addr) (nl cl : Nat) (l : Nat → Lnk) (outs : List Out) (me seed : Int) (m : Msg) (s : Regs) (op : Int) (i j k : Nat) (w : World) (h : CpuIs w c vp (.slice pl nl cl) me seed m s)
    (hl : LnkSlice w (.slice pl nl cl) nl l) (ho : OwnR w 146 3 s.vo outs.length (outCells outs)) (hn0 : 0 < nl) (hn1 : nl ≤ 1024) (ho8 : outs.length < 8) (hvc : ¬ sameBlock s.vo c) (hi : i < 16) (hj : j < 16) (hk : k < 16) :
    Calls Tryz.prog 81 #[.pointer (some ⟨c, 0, none⟩), .agg #[.int .i64 op, .int .i64 (i : Nat), .int .i64 (j : Nat), .int .i64 (k : Nat)]] w fun e w' => SendPost c vp (.slice pl nl cl) l nl outs me seed m s i j k w e w' := by
  have hb := h.here
  obtain ⟨lb, lo, rfl, hrow⟩ := hl.at' hn0
  have hkl := pick_lt (r := s.r i) hn0
  have hpe := pick_eq (r := s.r i) hn0
  have hbd := tmod_bd (r := s.r i) hn0 hn1
  obtain ⟨vo, hvo⟩ : ∃ vo, s.vo = vo := ⟨_, rfl⟩
  obtain ⟨po, co, hvo'⟩ : ∃ po co, vo = .slice po outs.length co := by
    rw [hvo] at ho
    rcases ho.is with ⟨h1, h2⟩ | ⟨g, cap, h1, _⟩
    · exact ⟨none, 0, by rw [h1, h2]⟩
    · exact ⟨_, _, h1⟩
  subst hvo'
  have c_l := h.n2
  have c_o := h.o
  rw [hvo] at c_o
  have b_i : (0 : Int) ≤ (i : Int) := by omega
  have b'_i : (i : Int) < 16 := by omega
  have b_j : (0 : Int) ≤ (j : Int) := by omega
  have b'_j : (j : Int) < 16 := by omega
  have b_k : (0 : Int) ≤ (k : Int) := by omega
  have b'_k : (k : Int) < 16 := by omega
  have c_i := h.rs i hi
  have c_j := h.rs j hj
  have c_k := h.rs k hk
  have hd : decide ((nl : Int) = 0) = false := decide_eq_false (by omega)
  have hd' : ((nl : Int) == 0) = false := by simpa using (show nl ≠ 0 by omega)
  have hd8 : decide ((outs.length : Int) = 8) = false := decide_eq_false (by omega)
  have hd8' : ((outs.length : Int) == 8) = false := by rw [beq_eq_false_iff_ne]; omega
  have HP := Lib.hid hpe
  have H := Lib.hid h
  have HR := Lib.hid hrow
  have HO := Lib.hid ho
  have HV := Lib.hid hvo
  clear hpe h hrow ho hl hvo
  go_enter Tryz.func81, Tryz.ntmps81
  go_wp2
  have hU := alloc_up w #[.int .i64 op, .int .i64 (i : Nat), .int .i64 (j : Nat), .int .i64 (k : Nat)] 123
  have p1 : (w.alloc (.cells #[.int .i64 op, .int .i64 (i : Nat), .int .i64 (j : Nat), .int .i64 (k : Nat)] 123)).cell? ⟨w.heap.size, 1, none⟩ = some (.int .i64 (i : Nat)) := by simp [go_sem]
  have p2 : (w.alloc (.cells #[.int .i64 op, .int .i64 (i : Nat), .int .i64 (j : Nat), .int .i64 (k : Nat)] 123)).cell? ⟨w.heap.size, 2, none⟩ = some (.int .i64 (j : Nat)) := by simp [go_sem]
  have p3 : (w.alloc (.cells #[.int .i64 op, .int .i64 (i : Nat), .int .i64 (j : Nat), .int .i64 (k : Nat)] 123)).cell? ⟨w.heap.size, 3, none⟩ = some (.int .i64 (k : Nat)) := by simp [go_sem]
  clear c_i c_j c_k c_l c_o
  generalize (w.alloc (.cells #[.int .i64 op, .int .i64 (i : Nat), .int .i64 (j : Nat), .int .i64 (k : Nat)] 123)) = W0 at *
  have k1 := lift p1
  have k2 := lift p2
  have k3 := lift p3
  have k4 := lift (cell_up hU (H.out.rs i hi))
  have k5 := lift (cell_up hU (H.out.rs j hj))
  have k6 := lift (cell_up hU (H.out.rs k hk))
  have hnz : ¬ nl = 0 := by omega
  have hw : IntKind.i64.wrap ((s.r i).tmod nl + nl) = (s.r i).tmod nl + nl := IntWalk.i64_in _ (by omega)
  refine region_upL [] [0, 1, 2, 3, 4, 5, 6, 7, 8, 9, 10, 11, 12, 13, 14, 15, 16, 17, 18, 19, 20, 21, 22, 23, 24, 25, 26, 27] [28] 29 [] (by kernel_rfl) (by kernel_rfl) (fun d _ _ _ _ h => by cases d <;> exact h) ?_
  simp only [getOps, List.getElem?_cons_zero, List.getElem?_cons_succ]
  repeat (apply wpUp_step rfl rfl; (focus (intro W hU; go_simp; exact ⟨rfl, Up.refl _⟩)); go_simp)
  rw [HP.out]
  refine wpUp_nil fun W1 hW1 => ?_
  have hU1 := hU.trans (up_drew.trans hW1)
  clear k1 k2 k3 k4 k5 k6 p1 p2 p3 hW1 hU hw
  refine wpNew_step rfl fun W2 hW2 K hK => ?_
  go_simp
  refine ⟨alloc_up _ _ _, hK _ _ ?_⟩
  clear hK K
  refine wpNew_nil fun W3 hW3 => ?_
  have hU2 := (hU1.trans hW2)
  have hB0 : w.heap.size ≤ W2.heap.size := hU2.1.size
  have hU3 := (hU2.trans (alloc_up _ _ _)).trans hW3
  obtain ⟨B, hB⟩ : ∃ B, W2.heap.size = B := ⟨_, rfl⟩
  have z0 : W3.cell? ⟨W2.heap.size, 0, none⟩ = some (.int .i64 0) := cell_up hW3 (by simp)
  have z1 : W3.cell? ⟨W2.heap.size, 1, none⟩ = some (.int .i64 0) := cell_up hW3 (by simp)
  have z2 : W3.cell? ⟨W2.heap.size, 2, none⟩ = some (.int .i64 0) := cell_up hW3 (by simp)
  have y0 : ∀ j, W3.frozen? ⟨W2.heap.size, j, none⟩ = false := fun j => (hW3.2 _).trans ((frozen?_alloc_cells _ _ _ _).trans (frozen_new _ _ (Nat.le_refl _)))
  rw [hB] at z0 z1 z2 y0 hB0 ⊢
  have f0 := y0 0
  have f1 := y0 1
  have f2 := y0 2
  clear hW2 hW3 hU1 hU2 hB y0
  go_wp2
  have x0 := (set3 z0 z1 z2 (.int .i64 (pickK (s.r i) nl)) (.int .i64 (s.r j)) (.int .i64 (s.r k))).1
  have x1 := (set3 z0 z1 z2 (.int .i64 (pickK (s.r i) nl)) (.int .i64 (s.r j)) (.int .i64 (s.r k))).2.1
  have x2 := (set3 z0 z1 z2 (.int .i64 (pickK (s.r i) nl)) (.int .i64 (s.r j)) (.int .i64 (s.r k))).2.2
  have hU4 := ((hU3.setCell (p := ⟨B, 0, none⟩) hB0 (.int .i64 (pickK (s.r i) nl))).setCell (p := ⟨B, 1, none⟩) hB0 (.int .i64 (s.r j))).setCell (p := ⟨B, 2, none⟩) hB0 (.int .i64 (s.r k))
  clear z0 z1 z2 f0 f1 f2 hU3
  generalize (((W3.setCell ⟨B, 0, none⟩ (.int .i64 (pickK (s.r i) nl))).setCell ⟨B, 1, none⟩ (.int .i64 (s.r j))).setCell ⟨B, 2, none⟩ (.int .i64 (s.r k))) = W4 at *
  have k1 := lift x0
  have k2 := lift x1
  have k3 := lift (cell_up hU4 H.out.n2)
  have k4 := lift (cell_up hU4 (HR.out _ hkl).2.2.1)
  refine region_upL [] [0, 1, 2, 3, 4, 5, 6, 7, 8, 9, 10, 11] [] 12 [] (by kernel_rfl) (by kernel_rfl) (fun d _ _ _ _ h => by cases d <;> exact h) ?_
  simp only [getOps, List.getElem?_cons_zero, List.getElem?_cons_succ]
  repeat (apply wpUp_step rfl rfl; (focus (intro W hU; go_simp; exact ⟨rfl, Up.refl _⟩)); go_simp)
  refine wpUp_nil fun W5 hW5 => ?_
  refine wpNew_nil fun W6 hW6 => ?_
  have hU6 : Up W4 W6 := (up_drew.trans hW5).trans hW6
  clear k1 k2 k3 k4 hW5 hW6
  have hu6 := hU4.trans hU6
  have s6 := H.out.up hu6
  have c_a := s6.a
  have y0 := cell_up hU6 x0
  have y1 := cell_up hU6 x1
  have y2 := cell_up hU6 x2
  clear x0 x1 x2 hU6 hU4
  by_cases hlk : s.r j < (l (pickK (s.r i) nl)).look
  · have hsf : sendF l nl m.t (s.r i) (s.r j) = 50 := by unfold sendF; rw [if_pos hlk]
    have HF := Lib.hid hsf
    clear hsf
    go_wp2
    exact ⟨rfl, Or.inl ⟨by rw [HF.out]; decide, by rw [HF.out], hu6⟩⟩
  · have hsf : sendF l nl m.t (s.r i) (s.r j) = addE m.t (s.r j) := by unfold sendF; rw [if_neg hlk]
    have HF := Lib.hid hsf
    clear hsf
    go_wp2
    have k1 := lift s6.m0
    have k2 := lift y1
    refine region_upL [10, 12] [0, 1, 2, 3, 4, 5, 6, 7, 8, 9, 10, 11, 12] [] 13 [] (by kernel_rfl) (by kernel_rfl) (fun d _ _ _ _ h => by cases d <;> exact h) ?_
    simp only [getOps, List.getElem?_cons_zero, List.getElem?_cons_succ]
    repeat (first | (apply wpUp_step rfl rfl; (focus (intro W hU; go_simp; first | exact ⟨rfl, Up.refl _⟩ | exact add_up _ _ _))) | (apply wpUp_pure rfl; (focus (intro W; go_simp; rfl))); go_simp)
    refine wpUp_nil fun W7 hW7 => ?_
    refine wpNew_nil fun W8 hW8 => ?_
    have hU8 : Up W6 W8 := (up_drew.trans hW7).trans hW8
    clear k1 k2 hW7 hW8
    have hu8 := hu6.trans hU8
    have s8 := H.out.up hu8
    have c_a := s8.a
    have z0 := cell_up hU8 y0
    have z1 := cell_up hU8 y1
    have z2 := cell_up hU8 y2
    clear y0 y1 y2 hU8 hu6 s6
    by_cases hae : addE m.t (s.r j) = 0
    · go_wp2
      have vo8 := HO.out.up hu8
      have k1 := lift s8.o
      rw [HV.out] at k1 vo8
      have k2 := lift z0
      have k3 := lift z1
      have k4 := lift z2
      have HZ := Lib.hid hae
      clear hae z0 z1 z2 c_a
      obtain ⟨i0, hi0, hz0, hz1, hz2⟩ := info_parts infoOut
      refine region_upL [0] [0, 1, 2, 3, 4, 5] [6] 7 [8, 9, 10] (by kernel_rfl) (by kernel_rfl) (fun d _ _ _ _ h => by cases d <;> exact h) ?_
      simp only [getOps, List.getElem?_cons_zero, List.getElem?_cons_succ]
      repeat (first | (apply wpUp_step rfl rfl; (focus (intro W hU; go_simp; exact ⟨rfl, Up.refl _⟩))) | (apply wpUp_pure rfl; (focus (intro W; go_simp; rfl))); go_simp)
      refine wpUp_nil fun W9 hW9 => ?_
      clear k1 k2 k3 k4
      refine wpNew_step rfl fun W10 hW10 K hK => ?_
      go_simp
      refine ⟨alloc_up _ _ _, hK _ _ ?_⟩
      clear hK K
      refine wpNew_nil fun W11 hW11 => ?_
      have hU11 : Up W8 W11 := (((up_drew.trans hW9).trans hW10).trans (alloc_up _ _ _)).trans hW11
      have q0 : W11.cell? ⟨W10.heap.size, 0, none⟩ = some (.int .i64 (pickK (s.r i) nl)) := cell_up hW11 (by simp)
      have q1 : W11.cell? ⟨W10.heap.size, 1, none⟩ = some (.int .i64 (s.r j)) := cell_up hW11 (by simp)
      have q2 : W11.cell? ⟨W10.heap.size, 2, none⟩ = some (.int .i64 (s.r k)) := cell_up hW11 (by simp)
      have hsrc : SrcR W11 (.slice (some ⟨W10.heap.size, 0, none⟩) 1 1) 1 [.int .i64 (pickK (s.r i) nl), .int .i64 (s.r j), .int .i64 (s.r k)] := src3 q0 q1 q2
      have vo11 := vo8.up hU11
      have hu11 := hu8.trans hU11
      have s11 := H.out.up hu11
      refine wpList_append_chg rfl (.tmp 96) (.tmp 98) 103 rfl 146 i0 _ 3 24 Tryz.underlying103 hi0 hz0 hz1 hz2 rfl (by decide) _ outs.length _ rfl vo11 _ 1 _ rfl rfl hsrc (by simp [Value.oneCell']) (by unfold maxLen; omega) (by omega) ?_
      intro v' W12 hown12 hchg12 hnew12
      rw [← HV.out] at hchg12 hnew12
      have s12 := s11.chg hchg12 hvc
      have c_o := s12.o
      have f_o := s12.fr 28 (by omega)
      have hnewc : ¬ sameBlock v' c := fun hc => (hnew12 c hc).elim hvc fun hge => by have := hu11.1.size; omega
      clear q0 q1 q2 hsrc vo11 vo8 hU11 hW11 hW10 hW9 s8 hu8
      obtain ⟨g', cap', rfl⟩ := hown12.pos (by omega)
      go_wp2
      go_end0
      refine Or.inr ⟨by rw [HF.out]; exact HZ.out, rfl, _, ?_, s12.sent _, ?_, fun x hx => (hnew12 x hx).imp id fun h => Nat.le_trans hu11.1.size h⟩
      · exact (((Chg.refl (fun x => x = c ∨ sameBlock s.vo x) w).up hu11).trans (T := sameBlock s.vo) hchg12 (fun _ _ h => Or.inr h)).setCell (Or.inl (Or.inl rfl)) _
      · rw [outCells_snoc]
        exact hown12.chg (S := (· = c)) ((Chg.refl (· = c) _).setCell (Or.inl rfl) _) (fun x hx e => hnewc (e ▸ hx))
    · have hne : addE m.t (s.r j) ≠ 0 := hae
      have HN := Lib.hid hne
      go_wp2
      exact ⟨rfl, Or.inl ⟨by rw [HF.out]; exact HN.out, by rw [HF.out], hu8⟩⟩
end Go.Proofs.YtalmjdlcogdpmaaGreatDoor
