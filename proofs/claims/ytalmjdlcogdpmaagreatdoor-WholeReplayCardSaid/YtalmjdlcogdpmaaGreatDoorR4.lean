/- Contracts and plain laws for the statement of this claim; no condition. Here: The contract of operators: the map of the seventeen instructions; a look-up in it. Printed by gen_ops.py. The contract of draw. One instruction of a handler, whichever it is: what it makes of the processor, as a plain function; its contract. Contracts of errors.As at a nil error, and at what errors.Join made of one fault of package vm; and of errors.Join at one fault. The contract of errors.Join at one error. The handler's run: its deferred function, and the loop over the instructions. errors.As at what errors.Join made of one fault: true, and the target holds it. A block told by the list of its cells. -/
import Derived.Test.YtalmjdlcogdpmaaGreatDoorR3
import Derived.MapKept
import Derived.Maps.Own
import Derived.Test.YtalmjdlcogdpmaaGreatDoorR1
import Derived.Test.YtalmjdlcogdpmaaGreatDoorR2
import Derived.LaidEql
import Derived.Stop.Asserts
import Derived.RowKitTokens
import Derived.Recover
import Derived.Deep.Cut
import Derived.Shelf.Abstract
import Derived.Laws.IdiomCopy
set_option linter.unusedVariables false
set_option linter.unusedSimpArgs false

namespace Go.Proofs.YtalmjdlcogdpmaaGreatDoor
open Go.RowKit Go.MapKept

theorem run_mapUpdate_new {P : Program} {w : World} {mty kt et : TypeId} {es : Array MapEntry} {clock : Nat} (n : Int) (v : Value) (hm : P.underlying mty = some (.map kt et)) (hd : P.underlying kt = some (.int .i64))
    (hf : Instr.findNow (.int .i64) (.int .i64 n) es.toList 0 = some none) :
    (Instr.mapUpdate mty (.map (some w.heap.size)) (.int .i64 n) v).run P (w.alloc (.map es clock)) = .ok () (w.alloc (.map (es.push { key := .int .i64 n, val := v, born := clock }) (clock + 1))) := by
  have hb := (MapKept.heap_alloc w (.map es clock)).1
  have hk := MapKept.run_checkKey (P := P) (w := w.alloc (.map es clock)) (k := .int .i64 n) hd rfl false 9999
  have hff := MapKept.run_findKey (P := P) (w := w.alloc (.map es clock)) hd hf
  have hs := MapKept.run_setObj_map (P := P) (.map (es.push { key := .int .i64 n, val := v, born := clock }) (clock + 1)) hb
  have e : ({ (w.alloc (.map es clock)) with heap := (w.alloc (.map es clock)).heap.setIfInBounds w.heap.size (.map (es.push { key := .int .i64 n, val := v, born := clock }) (clock + 1)) } : World) = w.alloc (.map (es.push { key := .int .i64 n, val := v, born := clock }) (clock + 1)) := by
    show ({ w with heap := _ } : World) = { w with heap := _ }
    congr 1
    show (w.heap.push _).setIfInBounds w.heap.size _ = w.heap.push _
    apply Array.ext'
    simp
  rw [e] at hs
  simp [Instr.mapUpdate, run_underlying hm, MapKept.run_getObj_map hb, hk, hff, hs, Result.andThen]
theorem run_lookup_hit {P : Program} {w : World} {mty kt et : TypeId} {es : Array MapEntry} {clock r i : Nat} (n : Int) (v : Value) (hm : P.underlying mty = some (.map kt et)) (hd : P.underlying kt = some (.int .i64))
    (hb : w.heap[r]? = some (.map es clock)) (hf : Instr.findNow (.int .i64) (.int .i64 n) es.toList 0 = some (some (i, v))) :
    (Instr.lookup mty (.map (some r)) (.int .i64 n) false).run P w = .ok v w := by
  have hk := MapKept.run_checkKey (P := P) (w := w) (k := .int .i64 n) hd rfl es.isEmpty 9999
  have hff := MapKept.run_findKey (P := P) (w := w) hd hf
  simp [Instr.lookup, run_underlying hm, MapKept.run_getObj_map hb, hk, hff, Result.andThen]

/-- What operators lays. -/
def opsE : Array MapEntry := #[{ key := .int .i64 0, val := .func (.func 69) #[] #[], born := 0 }, { key := .int .i64 1, val := .func (.func 70) #[] #[], born := 1 }, { key := .int .i64 2, val := .func (.func 71) #[] #[], born := 2 }, { key := .int .i64 3, val := .func (.func 72) #[] #[], born := 3 }, { key := .int .i64 4, val := .func (.func 73) #[] #[], born := 4 }, { key := .int .i64 5, val := .func (.func 74) #[] #[], born := 5 }, { key := .int .i64 6, val := .func (.func 75) #[] #[], born := 6 }, { key := .int .i64 7, val := .func (.func 76) #[] #[], born := 7 }, { key := .int .i64 8, val := .func (.func 77) #[] #[], born := 8 }, { key := .int .i64 9, val := .func (.func 78) #[] #[], born := 9 }, { key := .int .i64 10, val := .func (.func 79) #[] #[], born := 10 }, { key := .int .i64 11, val := .func (.func 80) #[] #[], born := 11 }, { key := .int .i64 12, val := .func (.func 81) #[] #[], born := 12 }, { key := .int .i64 13, val := .func (.func 82) #[] #[], born := 13 }, { key := .int .i64 14, val := .func (.func 83) #[] #[], born := 14 }, { key := .int .i64 15, val := .func (.func 84) #[] #[], born := 15 }, { key := .int .i64 16, val := .func (.func 85) #[] #[], born := 16 }]
def opFn : Nat → Nat := fun k => [69, 70, 71, 72, 73, 74, 75, 76, 77, 78, 79, 80, 81, 82, 83, 84, 85].getD k 0

set_option maxRecDepth 100000 in
set_option maxHeartbeats 1000000 in
theorem operators_any (w : World) : Calls Tryz.prog 62 #[] w fun e w' => e = .returned (.map (some w.heap.size)) ∧ w' = w.alloc (.map opsE 17) := by
  have hmm := @run_makeMap Tryz.prog
  have h0 := run_mapUpdate_new (P := Tryz.prog) (w := w) (es := #[]) (clock := 0) 0 (.func (.func 69) #[] #[]) Tryz.underlying161 Tryz.underlying3 rfl
  have h1 := run_mapUpdate_new (P := Tryz.prog) (w := w) (es := #[{ key := .int .i64 0, val := .func (.func 69) #[] #[], born := 0 }]) (clock := 1) 1 (.func (.func 70) #[] #[]) Tryz.underlying161 Tryz.underlying3 rfl
  have h2 := run_mapUpdate_new (P := Tryz.prog) (w := w) (es := #[{ key := .int .i64 0, val := .func (.func 69) #[] #[], born := 0 }, { key := .int .i64 1, val := .func (.func 70) #[] #[], born := 1 }]) (clock := 2) 2 (.func (.func 71) #[] #[]) Tryz.underlying161 Tryz.underlying3 rfl
  have h3 := run_mapUpdate_new (P := Tryz.prog) (w := w) (es := #[{ key := .int .i64 0, val := .func (.func 69) #[] #[], born := 0 }, { key := .int .i64 1, val := .func (.func 70) #[] #[], born := 1 }, { key := .int .i64 2, val := .func (.func 71) #[] #[], born := 2 }]) (clock := 3) 3 (.func (.func 72) #[] #[]) Tryz.underlying161 Tryz.underlying3 rfl
  have h4 := run_mapUpdate_new (P := Tryz.prog) (w := w) (es := #[{ key := .int .i64 0, val := .func (.func 69) #[] #[], born := 0 }, { key := .int .i64 1, val := .func (.func 70) #[] #[], born := 1 }, { key := .int .i64 2, val := .func (.func 71) #[] #[], born := 2 }, { key := .int .i64 3, val := .func (.func 72) #[] #[], born := 3 }]) (clock := 4) 4 (.func (.func 73) #[] #[]) Tryz.underlying161 Tryz.underlying3 rfl
  have h5 := run_mapUpdate_new (P := Tryz.prog) (w := w) (es := #[{ key := .int .i64 0, val := .func (.func 69) #[] #[], born := 0 }, { key := .int .i64 1, val := .func (.func 70) #[] #[], born := 1 }, { key := .int .i64 2, val := .func (.func 71) #[] #[], born := 2 }, { key := .int .i64 3, val := .func (.func 72) #[] #[], born := 3 }, { key := .int .i64 4, val := .func (.func 73) #[] #[], born := 4 }]) (clock := 5) 5 (.func (.func 74) #[] #[]) Tryz.underlying161 Tryz.underlying3 rfl
  have h6 := run_mapUpdate_new (P := Tryz.prog) (w := w) (es := #[{ key := .int .i64 0, val := .func (.func 69) #[] #[], born := 0 }, { key := .int .i64 1, val := .func (.func 70) #[] #[], born := 1 }, { key := .int .i64 2, val := .func (.func 71) #[] #[], born := 2 }, { key := .int .i64 3, val := .func (.func 72) #[] #[], born := 3 }, { key := .int .i64 4, val := .func (.func 73) #[] #[], born := 4 }, { key := .int .i64 5, val := .func (.func 74) #[] #[], born := 5 }]) (clock := 6) 6 (.func (.func 75) #[] #[]) Tryz.underlying161 Tryz.underlying3 rfl
  have h7 := run_mapUpdate_new (P := Tryz.prog) (w := w) (es := #[{ key := .int .i64 0, val := .func (.func 69) #[] #[], born := 0 }, { key := .int .i64 1, val := .func (.func 70) #[] #[], born := 1 }, { key := .int .i64 2, val := .func (.func 71) #[] #[], born := 2 }, { key := .int .i64 3, val := .func (.func 72) #[] #[], born := 3 }, { key := .int .i64 4, val := .func (.func 73) #[] #[], born := 4 }, { key := .int .i64 5, val := .func (.func 74) #[] #[], born := 5 }, { key := .int .i64 6, val := .func (.func 75) #[] #[], born := 6 }]) (clock := 7) 7 (.func (.func 76) #[] #[]) Tryz.underlying161 Tryz.underlying3 rfl
  have h8 := run_mapUpdate_new (P := Tryz.prog) (w := w) (es := #[{ key := .int .i64 0, val := .func (.func 69) #[] #[], born := 0 }, { key := .int .i64 1, val := .func (.func 70) #[] #[], born := 1 }, { key := .int .i64 2, val := .func (.func 71) #[] #[], born := 2 }, { key := .int .i64 3, val := .func (.func 72) #[] #[], born := 3 }, { key := .int .i64 4, val := .func (.func 73) #[] #[], born := 4 }, { key := .int .i64 5, val := .func (.func 74) #[] #[], born := 5 }, { key := .int .i64 6, val := .func (.func 75) #[] #[], born := 6 }, { key := .int .i64 7, val := .func (.func 76) #[] #[], born := 7 }]) (clock := 8) 8 (.func (.func 77) #[] #[]) Tryz.underlying161 Tryz.underlying3 rfl
  have h9 := run_mapUpdate_new (P := Tryz.prog) (w := w) (es := #[{ key := .int .i64 0, val := .func (.func 69) #[] #[], born := 0 }, { key := .int .i64 1, val := .func (.func 70) #[] #[], born := 1 }, { key := .int .i64 2, val := .func (.func 71) #[] #[], born := 2 }, { key := .int .i64 3, val := .func (.func 72) #[] #[], born := 3 }, { key := .int .i64 4, val := .func (.func 73) #[] #[], born := 4 }, { key := .int .i64 5, val := .func (.func 74) #[] #[], born := 5 }, { key := .int .i64 6, val := .func (.func 75) #[] #[], born := 6 }, { key := .int .i64 7, val := .func (.func 76) #[] #[], born := 7 }, { key := .int .i64 8, val := .func (.func 77) #[] #[], born := 8 }]) (clock := 9) 9 (.func (.func 78) #[] #[]) Tryz.underlying161 Tryz.underlying3 rfl
  have h10 := run_mapUpdate_new (P := Tryz.prog) (w := w) (es := #[{ key := .int .i64 0, val := .func (.func 69) #[] #[], born := 0 }, { key := .int .i64 1, val := .func (.func 70) #[] #[], born := 1 }, { key := .int .i64 2, val := .func (.func 71) #[] #[], born := 2 }, { key := .int .i64 3, val := .func (.func 72) #[] #[], born := 3 }, { key := .int .i64 4, val := .func (.func 73) #[] #[], born := 4 }, { key := .int .i64 5, val := .func (.func 74) #[] #[], born := 5 }, { key := .int .i64 6, val := .func (.func 75) #[] #[], born := 6 }, { key := .int .i64 7, val := .func (.func 76) #[] #[], born := 7 }, { key := .int .i64 8, val := .func (.func 77) #[] #[], born := 8 }, { key := .int .i64 9, val := .func (.func 78) #[] #[], born := 9 }]) (clock := 10) 10 (.func (.func 79) #[] #[]) Tryz.underlying161 Tryz.underlying3 rfl
  have h11 := run_mapUpdate_new (P := Tryz.prog) (w := w) (es := #[{ key := .int .i64 0, val := .func (.func 69) #[] #[], born := 0 }, { key := .int .i64 1, val := .func (.func 70) #[] #[], born := 1 }, { key := .int .i64 2, val := .func (.func 71) #[] #[], born := 2 }, { key := .int .i64 3, val := .func (.func 72) #[] #[], born := 3 }, { key := .int .i64 4, val := .func (.func 73) #[] #[], born := 4 }, { key := .int .i64 5, val := .func (.func 74) #[] #[], born := 5 }, { key := .int .i64 6, val := .func (.func 75) #[] #[], born := 6 }, { key := .int .i64 7, val := .func (.func 76) #[] #[], born := 7 }, { key := .int .i64 8, val := .func (.func 77) #[] #[], born := 8 }, { key := .int .i64 9, val := .func (.func 78) #[] #[], born := 9 }, { key := .int .i64 10, val := .func (.func 79) #[] #[], born := 10 }]) (clock := 11) 11 (.func (.func 80) #[] #[]) Tryz.underlying161 Tryz.underlying3 rfl
  have h12 := run_mapUpdate_new (P := Tryz.prog) (w := w) (es := #[{ key := .int .i64 0, val := .func (.func 69) #[] #[], born := 0 }, { key := .int .i64 1, val := .func (.func 70) #[] #[], born := 1 }, { key := .int .i64 2, val := .func (.func 71) #[] #[], born := 2 }, { key := .int .i64 3, val := .func (.func 72) #[] #[], born := 3 }, { key := .int .i64 4, val := .func (.func 73) #[] #[], born := 4 }, { key := .int .i64 5, val := .func (.func 74) #[] #[], born := 5 }, { key := .int .i64 6, val := .func (.func 75) #[] #[], born := 6 }, { key := .int .i64 7, val := .func (.func 76) #[] #[], born := 7 }, { key := .int .i64 8, val := .func (.func 77) #[] #[], born := 8 }, { key := .int .i64 9, val := .func (.func 78) #[] #[], born := 9 }, { key := .int .i64 10, val := .func (.func 79) #[] #[], born := 10 }, { key := .int .i64 11, val := .func (.func 80) #[] #[], born := 11 }]) (clock := 12) 12 (.func (.func 81) #[] #[]) Tryz.underlying161 Tryz.underlying3 rfl
  have h13 := run_mapUpdate_new (P := Tryz.prog) (w := w) (es := #[{ key := .int .i64 0, val := .func (.func 69) #[] #[], born := 0 }, { key := .int .i64 1, val := .func (.func 70) #[] #[], born := 1 }, { key := .int .i64 2, val := .func (.func 71) #[] #[], born := 2 }, { key := .int .i64 3, val := .func (.func 72) #[] #[], born := 3 }, { key := .int .i64 4, val := .func (.func 73) #[] #[], born := 4 }, { key := .int .i64 5, val := .func (.func 74) #[] #[], born := 5 }, { key := .int .i64 6, val := .func (.func 75) #[] #[], born := 6 }, { key := .int .i64 7, val := .func (.func 76) #[] #[], born := 7 }, { key := .int .i64 8, val := .func (.func 77) #[] #[], born := 8 }, { key := .int .i64 9, val := .func (.func 78) #[] #[], born := 9 }, { key := .int .i64 10, val := .func (.func 79) #[] #[], born := 10 }, { key := .int .i64 11, val := .func (.func 80) #[] #[], born := 11 }, { key := .int .i64 12, val := .func (.func 81) #[] #[], born := 12 }]) (clock := 13) 13 (.func (.func 82) #[] #[]) Tryz.underlying161 Tryz.underlying3 rfl
  have h14 := run_mapUpdate_new (P := Tryz.prog) (w := w) (es := #[{ key := .int .i64 0, val := .func (.func 69) #[] #[], born := 0 }, { key := .int .i64 1, val := .func (.func 70) #[] #[], born := 1 }, { key := .int .i64 2, val := .func (.func 71) #[] #[], born := 2 }, { key := .int .i64 3, val := .func (.func 72) #[] #[], born := 3 }, { key := .int .i64 4, val := .func (.func 73) #[] #[], born := 4 }, { key := .int .i64 5, val := .func (.func 74) #[] #[], born := 5 }, { key := .int .i64 6, val := .func (.func 75) #[] #[], born := 6 }, { key := .int .i64 7, val := .func (.func 76) #[] #[], born := 7 }, { key := .int .i64 8, val := .func (.func 77) #[] #[], born := 8 }, { key := .int .i64 9, val := .func (.func 78) #[] #[], born := 9 }, { key := .int .i64 10, val := .func (.func 79) #[] #[], born := 10 }, { key := .int .i64 11, val := .func (.func 80) #[] #[], born := 11 }, { key := .int .i64 12, val := .func (.func 81) #[] #[], born := 12 }, { key := .int .i64 13, val := .func (.func 82) #[] #[], born := 13 }]) (clock := 14) 14 (.func (.func 83) #[] #[]) Tryz.underlying161 Tryz.underlying3 rfl
  have h15 := run_mapUpdate_new (P := Tryz.prog) (w := w) (es := #[{ key := .int .i64 0, val := .func (.func 69) #[] #[], born := 0 }, { key := .int .i64 1, val := .func (.func 70) #[] #[], born := 1 }, { key := .int .i64 2, val := .func (.func 71) #[] #[], born := 2 }, { key := .int .i64 3, val := .func (.func 72) #[] #[], born := 3 }, { key := .int .i64 4, val := .func (.func 73) #[] #[], born := 4 }, { key := .int .i64 5, val := .func (.func 74) #[] #[], born := 5 }, { key := .int .i64 6, val := .func (.func 75) #[] #[], born := 6 }, { key := .int .i64 7, val := .func (.func 76) #[] #[], born := 7 }, { key := .int .i64 8, val := .func (.func 77) #[] #[], born := 8 }, { key := .int .i64 9, val := .func (.func 78) #[] #[], born := 9 }, { key := .int .i64 10, val := .func (.func 79) #[] #[], born := 10 }, { key := .int .i64 11, val := .func (.func 80) #[] #[], born := 11 }, { key := .int .i64 12, val := .func (.func 81) #[] #[], born := 12 }, { key := .int .i64 13, val := .func (.func 82) #[] #[], born := 13 }, { key := .int .i64 14, val := .func (.func 83) #[] #[], born := 14 }]) (clock := 15) 15 (.func (.func 84) #[] #[]) Tryz.underlying161 Tryz.underlying3 rfl
  have h16 := run_mapUpdate_new (P := Tryz.prog) (w := w) (es := #[{ key := .int .i64 0, val := .func (.func 69) #[] #[], born := 0 }, { key := .int .i64 1, val := .func (.func 70) #[] #[], born := 1 }, { key := .int .i64 2, val := .func (.func 71) #[] #[], born := 2 }, { key := .int .i64 3, val := .func (.func 72) #[] #[], born := 3 }, { key := .int .i64 4, val := .func (.func 73) #[] #[], born := 4 }, { key := .int .i64 5, val := .func (.func 74) #[] #[], born := 5 }, { key := .int .i64 6, val := .func (.func 75) #[] #[], born := 6 }, { key := .int .i64 7, val := .func (.func 76) #[] #[], born := 7 }, { key := .int .i64 8, val := .func (.func 77) #[] #[], born := 8 }, { key := .int .i64 9, val := .func (.func 78) #[] #[], born := 9 }, { key := .int .i64 10, val := .func (.func 79) #[] #[], born := 10 }, { key := .int .i64 11, val := .func (.func 80) #[] #[], born := 11 }, { key := .int .i64 12, val := .func (.func 81) #[] #[], born := 12 }, { key := .int .i64 13, val := .func (.func 82) #[] #[], born := 13 }, { key := .int .i64 14, val := .func (.func 83) #[] #[], born := 14 }, { key := .int .i64 15, val := .func (.func 84) #[] #[], born := 15 }]) (clock := 16) 16 (.func (.func 85) #[] #[]) Tryz.underlying161 Tryz.underlying3 rfl
  simp only [List.push_toArray, List.cons_append, List.nil_append, Nat.reduceAdd] at h0 h1 h2 h3 h4 h5 h6 h7 h8 h9 h10 h11 h12 h13 h14 h15 h16
  go_enter Tryz.func62, Tryz.ntmps62
  go_wp2
  go_ret
  exact ⟨rfl, rfl⟩

theorem op_find : ∀ k : Nat, k < 17 → Instr.findNow (.int .i64) (.int .i64 k) opsE.toList 0 = some (some (k, .func (.func (opFn k)) #[] #[]))
  | 0, _ => rfl
  | 1, _ => rfl
  | 2, _ => rfl
  | 3, _ => rfl
  | 4, _ => rfl
  | 5, _ => rfl
  | 6, _ => rfl
  | 7, _ => rfl
  | 8, _ => rfl
  | 9, _ => rfl
  | 10, _ => rfl
  | 11, _ => rfl
  | 12, _ => rfl
  | 13, _ => rfl
  | 14, _ => rfl
  | 15, _ => rfl
  | 16, _ => rfl
  | n + 17, h => by omega
theorem op_at {w : World} {r : Nat} (hb : w.heap[r]? = some (.map opsE 17)) (k : Nat) (hk : k < 17) :
    (Instr.lookup 161 (.map (some r)) (.int .i64 k) false).run Tryz.prog w = .ok (.func (.func (opFn k)) #[] #[]) w :=
  run_lookup_hit _ _ Tryz.underlying161 Tryz.underlying3 hb (op_find k hk)
end Go.Proofs.YtalmjdlcogdpmaaGreatDoor

namespace Go.Proofs.YtalmjdlcogdpmaaGreatDoor
open Go.RowKit
theorem stepped_reg_up {w : World} {c : Nat} {vp vl : Value} {me seed : Int} {m : Msg} {s : Regs} (h : CpuIs w c vp vl me seed m s) {i : Nat} (hi : i < 16) (v : Int) {w2 : World} (hu : Up w w2) : Stepped w (w2.setCell ⟨c, 11 + i, none⟩ (.int .i64 v)) c vp vl me seed m { s with r := upd s.r i v } :=
  ⟨((Chg.refl (· = c) w).up hu).setCell (Or.inl rfl) _, (h.up hu).reg hi v⟩

attribute [local go_sem] upUpon_value upUpon_enter upUpon_skip upUpon_row
set_option maxRecDepth 100000 in
set_option maxHeartbeats 400000 in
theorem draw_any (c : Nat) (vp vl : Value) (me seed : Int) (m : Msg) (s : Regs) (op x : Int) (i j : Nat) (w : World) (h : CpuIs w c vp vl me seed m s) (hi : i < 16) (hj : j < 16) (hr : s.r j ≤ 9223372036854775807) (hd0 : 0 ≤ s.draws) (hd1 : s.draws < 9223372036854775807) :
    Calls Tryz.prog 82 #[.pointer (some ⟨c, 0, none⟩), .agg #[.int .i64 op, .int .i64 (i : Nat), .int .i64 (j : Nat), .int .i64 x]] w fun e w' => e = .returned (.tuple #[]) ∧ Stepped w w' c vp vl me seed m { s with r := upd s.r i (belowv seed me s.draws (s.r j)), draws := s.draws + 1 } := by
  have hb := h.here
  have b_i : (0 : Int) ≤ (i : Int) := by omega
  have b'_i : (i : Int) < 16 := by omega
  have b_j : (0 : Int) ≤ (j : Int) := by omega
  have b'_j : (j : Int) < 16 := by omega
  have hU := alloc_up w #[.int .i64 op, .int .i64 (i : Nat), .int .i64 (j : Nat), .int .i64 x] 123
  have p1 : (w.alloc (.cells #[.int .i64 op, .int .i64 (i : Nat), .int .i64 (j : Nat), .int .i64 x] 123)).cell? ⟨w.heap.size, 1, none⟩ = some (.int .i64 (i : Nat)) := by simp [go_sem]
  have p2 : (w.alloc (.cells #[.int .i64 op, .int .i64 (i : Nat), .int .i64 (j : Nat), .int .i64 x] 123)).cell? ⟨w.heap.size, 2, none⟩ = some (.int .i64 (j : Nat)) := by simp [go_sem]
  have H := Lib.hid h
  have hz0 : w.heap.size < (w.alloc (.cells #[.int .i64 op, .int .i64 (i : Nat), .int .i64 (j : Nat), .int .i64 x] 123)).heap.size := by simp
  clear h
  go_enter Tryz.func82, Tryz.ntmps82
  go_wp2
  generalize (w.alloc (.cells #[.int .i64 op, .int .i64 (i : Nat), .int .i64 (j : Nat), .int .i64 x] 123)) = W0 at *
  have hs := H.out.up hU
  have hbW : c < W0.heap.size := Nat.lt_trans hb hz0
  have k1 : ∀ W, Up W0.drew W → W.cell? ⟨w.heap.size, 1, none⟩ = some (.int .i64 (i : Nat)) := fun W h => cell_up (up_drew.trans h) p1
  have k2 : ∀ W, Up W0.drew W → W.cell? ⟨w.heap.size, 2, none⟩ = some (.int .i64 (j : Nat)) := fun W h => cell_up (up_drew.trans h) p2
  have k3 : ∀ W, Up W0.drew W → W.cell? ⟨c, 3, none⟩ = some (.int .u64 seed) := fun W h => cell_up (up_drew.trans h) hs.n3
  have k4 : ∀ W, Up W0.drew W → W.cell? ⟨c, 1, none⟩ = some (.int .i64 me) := fun W h => cell_up (up_drew.trans h) hs.n1
  have k5 : ∀ W, Up W0.drew W → W.cell? ⟨c, 27, none⟩ = some (.int .i64 s.draws) := fun W h => cell_up (up_drew.trans h) hs.d
  have k6 : ∀ W, Up W0.drew W → W.cell? ⟨c, 11 + j, none⟩ = some (.int .i64 (s.r j)) := fun W h => cell_up (up_drew.trans h) (hs.rs j hj)
  refine region_upL [] [0, 1, 2, 3, 4, 5, 6, 7, 8, 9, 10, 11, 12, 13, 14, 15, 16, 17, 18, 19, 20, 21, 22, 23, 24, 25, 26, 27] [] 28 [] (by kernel_rfl) (by kernel_rfl) (fun d _ _ _ _ h => by cases d <;> exact h) ?_
  simp only [getOps, List.getElem?_cons_zero, List.getElem?_cons_succ]
  repeat (apply wpUp_step rfl rfl; (focus (intro W hU; go_simp; first | exact ⟨rfl, Up.refl _⟩ | exact below_any _ _ _ _ _ hr)); go_simp)
  refine wpUp_nil fun W0' hW0 => ?_
  refine wpNew_nil fun W hW1 => ?_
  have hW := hW0.trans hW1
  clear hW0 hW1
  have hs2 := (hs.up up_drew).up hW
  have hu2 := hU.trans (up_drew.trans hW)
  clear k1 k2 k3 k4 k5 k6 p1 p2 hW
  have c_i := hs2.rs i hi
  have f_i := hs2.fr (11 + i) (by omega)
  have c_d := (hs2.reg hi (belowv seed me s.draws (s.r j))).d
  have f_d := (hs2.reg hi (belowv seed me s.draws (s.r j))).fr 27 (by omega)
  have w_d : IntKind.i64.wrap (s.draws + 1) = s.draws + 1 := IntWalk.i64_in _ (by omega)
  go_wp2
  go_end0
  exact ⟨rfl, (((Chg.refl (· = c) w).up hu2).setCell (Or.inl rfl) _).setCell (Or.inl rfl) _, (hs2.reg hi _).drawn _⟩
end Go.Proofs.YtalmjdlcogdpmaaGreatDoor

namespace Go.Proofs.YtalmjdlcogdpmaaGreatDoor
open Go.RowKit

structure Env where
  np : Nat
  nl : Nat
  p : Nat → Ins
  l : Nat → Lnk
  me : Int
  seed : Int
  m : Msg
structure St where
  r : Nat → Int
  d : Int
  o : List Out
  a : Int
/-- One instruction; an error's number where it gives up. -/
def step1 (E : Env) (x : Ins) (s : St) : Except Int St :=
  match x.op.toNat with
  | 0 => .ok { s with a := E.np }
  | 1 => .ok { s with r := upd s.r x.a.toNat x.b }
  | 2 => .ok { s with r := upd s.r x.a.toNat (s.r x.b.toNat) }
  | 3 => .ok { s with r := upd s.r x.a.toNat (wrap64 (s.r x.b.toNat + s.r x.c.toNat)) }
  | 4 => .ok { s with r := upd s.r x.a.toNat (wrap64 (s.r x.b.toNat - s.r x.c.toNat)) }
  | 5 => .ok { s with r := upd s.r x.a.toNat (wrap64 (s.r x.b.toNat * s.r x.c.toNat)) }
  | 6 => .ok { s with r := upd s.r x.a.toNat (quoV (s.r x.b.toNat) (s.r x.c.toNat)) }
  | 7 => .ok { s with r := upd s.r x.a.toNat (remV (s.r x.b.toNat) (s.r x.c.toNat)) }
  | 8 => .ok { s with r := upd s.r x.a.toNat (truV (decide (s.r x.b.toNat < s.r x.c.toNat))) }
  | 9 => .ok { s with r := upd s.r x.a.toNat (truV (s.r x.b.toNat == s.r x.c.toNat)) }
  | 10 => .ok { s with a := x.a }
  | 11 => if s.r x.a.toNat = 0 then .ok { s with a := x.b } else .ok s
  | 12 => if E.nl = 0 ∨ s.o.length = 8 then .ok s else
      if sendF E.l E.nl E.m.t (s.r x.a.toNat) (s.r x.b.toNat) ≠ 0 then .error (sendF E.l E.nl E.m.t (s.r x.a.toNat) (s.r x.b.toNat))
      else .ok { s with o := s.o ++ [⟨pickK (s.r x.a.toNat) E.nl, s.r x.b.toNat, s.r x.c.toNat⟩] }
  | 13 => .ok { s with r := upd s.r x.a.toNat (belowv E.seed E.me s.d (s.r x.b.toNat)), d := s.d + 1 }
  | 14 => .ok { s with r := upd s.r x.a.toNat E.m.v }
  | 15 => .ok { s with r := upd s.r x.a.toNat E.m.t }
  | _ => .ok { s with r := upd s.r x.a.toNat E.me }

def I64 (x : Int) : Prop := -9223372036854775808 ≤ x ∧ x ≤ 9223372036854775807
structure GoodE (E : Env) : Prop where
  v : I64 E.m.v
  t : I64 E.m.t
  me : I64 E.me
  nl : E.nl ≤ 1024
  np : E.np ≤ 256
structure GoodS (E : Env) (n : Int) (s : St) : Prop where
  r : ∀ i, I64 (s.r i)
  d0 : 0 ≤ s.d
  d1 : s.d ≤ 1125899906842624 + n
  a0 : 0 ≤ s.a
  a1 : s.a ≤ E.np
  o : s.o.length ≤ 8

theorem i64_upd {f : Nat → Int} (h : ∀ i, I64 (f i)) (i : Nat) {v : Int} (hv : I64 v) : ∀ j, I64 (upd f i v j) := fun j => by
  unfold upd; split
  · exact hv
  · exact h j
theorem i64_wrap (x : Int) : I64 (wrap64 x) := by unfold I64 wrap64; omega
theorem i64_quo (a b : Int) : I64 (quoV a b) := by
  unfold quoV; split
  · exact ⟨by omega, by omega⟩
  · exact i64_wrap _
theorem i64_rem {a : Int} (ha : I64 a) (b : Int) : I64 (remV a b) := by
  unfold remV; split
  · exact ⟨by omega, by omega⟩
  · obtain ⟨h0, h1⟩ := ha
    have hb : (a.tmod b).natAbs ≤ a.natAbs := by rw [Int.natAbs_tmod]; exact Nat.mod_le _ _
    by_cases hs : 0 ≤ a
    · have := Int.tmod_nonneg b hs
      exact ⟨by omega, by omega⟩
    · have : a.tmod b ≤ 0 := by
        have := Int.tmod_nonneg b (show 0 ≤ -a by omega)
        rw [Int.neg_tmod] at this
        omega
      exact ⟨by omega, by omega⟩
theorem i64_tru (b : Bool) : I64 (truV b) := by unfold truV I64; split <;> omega
theorem i64_below {s a n k : Int} (hk : I64 k) : I64 (belowv s a n k) := by
  unfold belowv; split
  · exact ⟨by omega, by omega⟩
  · rename_i h
    have h1 := Int.emod_nonneg (atv s a n) (show k ≠ 0 by omega)
    have h2 := Int.emod_lt_of_pos (atv s a n) (show 0 < k by omega)
    exact ⟨by omega, by have := hk.2; omega⟩

/-- What may be said of an instruction that the check lets in. -/
theorem may_reg {n many : Int} (h : rightB n 114 many = true) : ∃ i : Nat, n = i ∧ i < 16 := by
  unfold rightB at h; simp at h; exact ⟨n.toNat, by omega, by omega⟩
theorem may_place {n many : Int} (h : rightB n 112 many = true) : 0 ≤ n ∧ n ≤ many := by
  unfold rightB at h; simpa using h
theorem may_num {n many : Int} (h : rightB n 110 many = true) : I64 n := by
  unfold rightB at h; simp at h; exact ⟨by omega, by omega⟩
theorem may_split {op a b c many : Int} (h : mayB op a b c many = true) : ∃ k : Nat, op = k ∧ k < 17 ∧ rightB a (kindsOf k).1 many = true ∧ rightB b (kindsOf k).2.1 many = true ∧ rightB c (kindsOf k).2.2 many = true := by
  unfold mayB at h
  simp only [Bool.and_eq_true, decide_eq_true_eq] at h
  exact ⟨op.toNat, by omega, by omega, h.2.1, h.2.2.1, h.2.2.2⟩

theorem step1_good {E : Env} (hE : GoodE E) {x : Ins} {n : Int} {s s' : St} (hx : mayB x.op x.a x.b x.c E.np = true) (h : GoodS E n s) (hs : step1 E x s = .ok s') : GoodS E (n + 1) s' := by
  obtain ⟨k, hk, hlt, ha, hb, hc⟩ := may_split hx
  have hkk : x.op.toNat = k := by omega
  have base : GoodS E (n + 1) s := ⟨h.r, h.d0, by have := h.d1; omega, h.a0, h.a1, h.o⟩
  have reg : ∀ {v : Int}, I64 v → GoodS E (n + 1) { s with r := upd s.r x.a.toNat v } := fun hv => ⟨i64_upd h.r _ hv, base.d0, base.d1, base.a0, base.a1, base.o⟩
  unfold step1 at hs
  rw [hkk] at hs
  rcases k with _ | _ | _ | _ | _ | _ | _ | _ | _ | _ | _ | _ | _ | _ | _ | _ | _ | k <;> simp only [kindsOf] at ha hb hc hs
  · injection hs with hs; subst hs; exact ⟨base.r, base.d0, base.d1, by simp, by simp, base.o⟩
  · injection hs with hs; subst hs; exact reg (may_num hb)
  · injection hs with hs; subst hs; exact reg (h.r _)
  · injection hs with hs; subst hs; exact reg (i64_wrap _)
  · injection hs with hs; subst hs; exact reg (i64_wrap _)
  · injection hs with hs; subst hs; exact reg (i64_wrap _)
  · injection hs with hs; subst hs; exact reg (i64_quo _ _)
  · injection hs with hs; subst hs; exact reg (i64_rem (h.r _) _)
  · injection hs with hs; subst hs; exact reg (i64_tru _)
  · injection hs with hs; subst hs; exact reg (i64_tru _)
  · injection hs with hs; subst hs; have := may_place ha; exact ⟨base.r, base.d0, base.d1, this.1, this.2, base.o⟩
  · split at hs
    · injection hs with hs; subst hs; have := may_place hb; exact ⟨base.r, base.d0, base.d1, this.1, this.2, base.o⟩
    · injection hs with hs; subst hs; exact base
  · split at hs
    · injection hs with hs; subst hs; exact base
    · rename_i ho
      split at hs
      · cases hs
      · injection hs with hs; subst hs; exact ⟨base.r, base.d0, base.d1, base.a0, base.a1, by have := base.o; simp; omega⟩
  · injection hs with hs; subst hs; exact ⟨i64_upd h.r _ (i64_below (h.r _)), by have := h.d0; show 0 ≤ s.d + 1; omega, by have := h.d1; show s.d + 1 ≤ _; omega, base.a0, base.a1, base.o⟩
  · injection hs with hs; subst hs; exact reg hE.v
  · injection hs with hs; subst hs; exact reg hE.t
  · injection hs with hs; subst hs; exact reg hE.me
  · omega

/-- The processor in block c, what was sent in a row of its own, nothing of it below B. -/
def StIs (B c : Nat) (vp vl : Value) (E : Env) (s : St) (w : World) : Prop :=
  ∃ vo, CpuIs w c vp vl E.me E.seed E.m ⟨s.r, s.d, vo, s.a⟩ ∧ OwnR w 146 3 vo s.o.length (outCells s.o) ∧ ∀ k, sameBlock vo k → B ≤ k ∧ k ≠ c
def InsPost (B c : Nat) (vp vl : Value) (E : Env) (x : Ins) (s : St) (w : World) (e : Ending) (w' : World) : Prop :=
  match step1 E x s with
  | .ok s' => e = .returned (.tuple #[]) ∧ Chg (fun k => k = c ∨ B ≤ k) w w' ∧ StIs B c vp vl E s' w'
  | .error f => ∃ i, e = .panicked [{ v := .iface 140 (.agg #[.int .i64 i, .int .i64 f]), recovered := false }] ∧ Chg (fun k => k = c ∨ B ≤ k) w w'

theorem insPost_ok {B c : Nat} {vp vl : Value} {E : Env} {x : Ins} {s s' : St} {w w' : World} {vo : Value} (hs : step1 E x s = .ok s') (hbl : ∀ k, sameBlock vo k → B ≤ k ∧ k ≠ c) (ho : OwnR w 146 3 vo s.o.length (outCells s.o)) (hso : s'.o = s.o)
    (h : Stepped w w' c vp vl E.me E.seed E.m ⟨s'.r, s'.d, vo, s'.a⟩) : InsPost B c vp vl E x s w (.returned (.tuple #[])) w' := by
  unfold InsPost
  rw [hs]
  exact ⟨rfl, h.1.mono (fun k _ hk => Or.inl hk), vo, h.2, by rw [hso]; exact ho.chg h.1 (fun k hk => (hbl k hk).2), hbl⟩

set_option maxRecDepth 100000 in
set_option maxHeartbeats 1000000 in
theorem ins_any (B c : Nat) (pv pl : Option Addr) (cv cl : Nat) (E : Env) (hE : GoodE E) (x : Ins) (s : St) (n : Int) (hn : n ≤ 4096) (hS : GoodS E n s) (hx : mayB x.op x.a x.b x.c E.np = true) (w : World)
    (h : StIs B c (.slice pv E.np cv) (.slice pl E.nl cl) E s w) (hl : LnkSlice w (.slice pl E.nl cl) E.nl E.l) (hBw : B ≤ w.heap.size) :
    Calls Tryz.prog (opFn x.op.toNat) #[.pointer (some ⟨c, 0, none⟩), .agg #[.int .i64 x.op, .int .i64 x.a, .int .i64 x.b, .int .i64 x.c]] w (InsPost B c (.slice pv E.np cv) (.slice pl E.nl cl) E x s w) := by
  obtain ⟨op, a, b, cc⟩ := x
  obtain ⟨vo, hc, ho, hbl⟩ := h
  obtain ⟨k, hk, hlt, ha, hb, hcc⟩ := may_split hx
  simp only at hk ha hb hcc hx ⊢
  subst hk
  simp only [Int.toNat_natCast]
  rcases k with _ | _ | _ | _ | _ | _ | _ | _ | _ | _ | _ | _ | _ | _ | _ | _ | _ | k <;> simp only [kindsOf] at ha hb hcc
  · exact (halt_any c _ _ _ _ _ _ _ _ _ _ _ _ _ w hc rfl).mono fun e w' h => by obtain ⟨rfl, h⟩ := h; exact insPost_ok rfl hbl ho rfl h
  · obtain ⟨i, rfl, hi⟩ := may_reg ha
    exact (set_any c _ _ _ _ _ _ _ _ _ i w hc hi).mono fun e w' h => by obtain ⟨rfl, h⟩ := h; exact insPost_ok rfl hbl ho rfl h
  · obtain ⟨i, rfl, hi⟩ := may_reg ha
    obtain ⟨j, rfl, hj⟩ := may_reg hb
    exact (move_any c _ _ _ _ _ _ _ _ i j w hc hi hj).mono fun e w' h => by obtain ⟨rfl, h⟩ := h; exact insPost_ok rfl hbl ho rfl h
  · obtain ⟨i, rfl, hi⟩ := may_reg ha
    obtain ⟨j, rfl, hj⟩ := may_reg hb
    obtain ⟨k, rfl, hk⟩ := may_reg hcc
    exact (cadd_any c _ _ _ _ _ _ _ i j k w hc hi hj hk).mono fun e w' h => by obtain ⟨rfl, h⟩ := h; exact insPost_ok rfl hbl ho rfl h
  · obtain ⟨i, rfl, hi⟩ := may_reg ha
    obtain ⟨j, rfl, hj⟩ := may_reg hb
    obtain ⟨k, rfl, hk⟩ := may_reg hcc
    exact (sub_any c _ _ _ _ _ _ _ i j k w hc hi hj hk).mono fun e w' h => by obtain ⟨rfl, h⟩ := h; exact insPost_ok rfl hbl ho rfl h
  · obtain ⟨i, rfl, hi⟩ := may_reg ha
    obtain ⟨j, rfl, hj⟩ := may_reg hb
    obtain ⟨k, rfl, hk⟩ := may_reg hcc
    exact (mul_any c _ _ _ _ _ _ _ i j k w hc hi hj hk).mono fun e w' h => by obtain ⟨rfl, h⟩ := h; exact insPost_ok rfl hbl ho rfl h
  · obtain ⟨i, rfl, hi⟩ := may_reg ha
    obtain ⟨j, rfl, hj⟩ := may_reg hb
    obtain ⟨k, rfl, hk⟩ := may_reg hcc
    exact (div_any c _ _ _ _ _ _ _ i j k w hc hi hj hk).mono fun e w' h => by obtain ⟨rfl, h⟩ := h; exact insPost_ok rfl hbl ho rfl h
  · obtain ⟨i, rfl, hi⟩ := may_reg ha
    obtain ⟨j, rfl, hj⟩ := may_reg hb
    obtain ⟨k, rfl, hk⟩ := may_reg hcc
    exact (mod_any c _ _ _ _ _ _ _ i j k w hc hi hj hk).mono fun e w' h => by obtain ⟨rfl, h⟩ := h; exact insPost_ok rfl hbl ho rfl h
  · obtain ⟨i, rfl, hi⟩ := may_reg ha
    obtain ⟨j, rfl, hj⟩ := may_reg hb
    obtain ⟨k, rfl, hk⟩ := may_reg hcc
    exact (less_any c _ _ _ _ _ _ _ i j k w hc hi hj hk).mono fun e w' h => by obtain ⟨rfl, h⟩ := h; exact insPost_ok rfl hbl ho rfl h
  · obtain ⟨i, rfl, hi⟩ := may_reg ha
    obtain ⟨j, rfl, hj⟩ := may_reg hb
    obtain ⟨k, rfl, hk⟩ := may_reg hcc
    exact (same_any c _ _ _ _ _ _ _ i j k w hc hi hj hk).mono fun e w' h => by obtain ⟨rfl, h⟩ := h; exact insPost_ok rfl hbl ho rfl h
  · exact (jump_any c _ _ _ _ _ _ _ _ _ _ w hc).mono fun e w' h => by obtain ⟨rfl, h⟩ := h; exact insPost_ok rfl hbl ho rfl h
  · obtain ⟨i, rfl, hi⟩ := may_reg ha
    by_cases hz : s.r i = 0
    · exact (zero_yes c _ _ _ _ _ _ _ _ _ i w hc hi hz).mono fun e w' h => by
        obtain ⟨rfl, h⟩ := h
        exact insPost_ok (s' := { s with a := b }) (if_pos hz) hbl ho rfl h
    · exact (zero_no c _ _ _ _ _ _ _ _ _ i w hc hi hz).mono fun e w' h => by
        obtain ⟨rfl, h⟩ := h
        exact insPost_ok (s' := s) (if_neg hz) hbl ho rfl h
  · obtain ⟨i, rfl, hi⟩ := may_reg ha
    obtain ⟨j, rfl, hj⟩ := may_reg hb
    obtain ⟨k, rfl, hk⟩ := may_reg hcc
    have hst : step1 E ⟨12, i, j, k⟩ s = if E.nl = 0 ∨ s.o.length = 8 then .ok s else
      if sendF E.l E.nl E.m.t (s.r i) (s.r j) ≠ 0 then .error (sendF E.l E.nl E.m.t (s.r i) (s.r j))
      else .ok { s with o := s.o ++ [⟨pickK (s.r i) E.nl, s.r j, s.r k⟩] } := rfl
    by_cases h0 : E.nl = 0 ∨ s.o.length = 8
    · rw [if_pos h0] at hst
      obtain ⟨po, co, hvo⟩ : ∃ po co, vo = .slice po s.o.length co := by
        rcases ho.is with ⟨h1, h2⟩ | ⟨g, cap, h1, _⟩
        · exact ⟨none, 0, by rw [h1, h2]⟩
        · exact ⟨_, _, h1⟩
      refine (send_skip c _ pl E.nl cl po s.o.length co _ _ _ _ _ i j k w hc hvo h0).mono fun e w' h => ?_
      obtain ⟨rfl, h⟩ := h
      exact insPost_ok hst hbl ho rfl ⟨.of_up h, hc.up h⟩
    · rw [if_neg h0] at hst
      refine (send_go c _ pl E.nl cl E.l s.o _ _ _ _ _ i j k w hc hl ho (by omega) hE.nl (by have := hS.o; omega) (fun hk => (hbl c hk).2 rfl) hi hj hk).mono fun e w' h => ?_
      rcases h with ⟨hf, he, hu⟩ | ⟨hf, he, vo', hch, hci, hown, hbl'⟩
      · rw [if_pos hf] at hst
        refine (?_ : InsPost B c _ _ E ⟨12, i, j, k⟩ s w e w')
        unfold InsPost
        rw [hst]
        exact ⟨_, he, .of_up hu⟩
      · rw [if_neg (by simpa using hf)] at hst
        refine (?_ : InsPost B c _ _ E ⟨12, i, j, k⟩ s w e w')
        unfold InsPost
        rw [hst]
        refine ⟨he, hch.mono (fun x _ hx => hx.elim (fun e => Or.inl e) fun h => Or.inr (hbl x h).1), vo', hci, by simpa using hown, fun x hx => ?_⟩
        rcases hbl' x hx with h | h
        · exact hbl x h
        · exact ⟨Nat.le_trans hBw h, fun e => by have := hc.here; omega⟩
  · obtain ⟨i, rfl, hi⟩ := may_reg ha
    obtain ⟨j, rfl, hj⟩ := may_reg hb
    exact (draw_any c _ _ _ _ _ _ _ _ i j w hc hi hj (hS.r j).2 hS.d0 (by have := hS.d1; show s.d < _; omega)).mono fun e w' h => by obtain ⟨rfl, h⟩ := h; exact insPost_ok rfl hbl ho rfl h
  · obtain ⟨i, rfl, hi⟩ := may_reg ha
    exact (value_any c _ _ _ _ _ _ _ _ _ i w hc hi).mono fun e w' h => by obtain ⟨rfl, h⟩ := h; exact insPost_ok rfl hbl ho rfl h
  · obtain ⟨i, rfl, hi⟩ := may_reg ha
    exact (time_any c _ _ _ _ _ _ _ _ _ i w hc hi).mono fun e w' h => by obtain ⟨rfl, h⟩ := h; exact insPost_ok rfl hbl ho rfl h
  · obtain ⟨i, rfl, hi⟩ := may_reg ha
    exact (self_any c _ _ _ _ _ _ _ _ _ i w hc hi).mono fun e w' h => by obtain ⟨rfl, h⟩ := h; exact insPost_ok rfl hbl ho rfl h
  · omega
end Go.Proofs.YtalmjdlcogdpmaaGreatDoor

namespace Go.Proofs.YtalmjdlcogdpmaaGreatDoor
open Go.RowKit Go.Extern.Stop Go.Stop Go.Extern

/-- errors.As(nil, target). -/
theorem as_nil (t : Value) (w : World) : Calls Tryz.prog 54 #[.nilIface, t] w fun e w' => e = .returned (.bool false) ∧ w = w' := by
  go_enter Tryz.func54, Tryz.ntmps54
  go_wp2
  go_ret
  exact ⟨rfl, rfl⟩

theorem asValueOfP (t : Addr) (w : World) : (ReflectliteValue.unpack (.iface 143 (.pointer (some t)))).run Tryz.prog w
    = .ok (.agg #[.pointer (some ⟨1, 143, none⟩), .pointer (some ⟨w.heap.size, 0, none⟩), .int .u64 150]) (w.alloc (.cells #[.pointer (some t)] 143)) := by kernel_rfl
theorem asTypeP (a : Addr) (w : World) : (ReflectliteValue.methodAny (ReflectliteValue.valueError "reflectlite.Value.Type" 0) (fun t _ _ _ => ReflectliteType.toType t) #[.agg #[.pointer (some ⟨1, 143, none⟩), .pointer (some a), .int .u64 150]]).run Tryz.prog w
    = .ok (.iface 151 (.agg #[.pointer (some ⟨1, 143, none⟩)])) w := by kernel_rfl
theorem asMethodKind (h : Value) (w : World) : (Go.method 355 151 (.agg #[h]) "Kind").run Tryz.prog w = .ok (112, h) w := by kernel_rfl
theorem asKindP (w : World) : ((ReflectliteType.abiMethod fun t => (fun a : Nat => Value.int IntKind.u8 (a : Int)) <$> Rtype.kind t) #[.pointer (some ⟨1, 143, none⟩)]).run Tryz.prog w = .ok (.int .u8 22) w := by kernel_rfl
theorem asKindF (w : World) : ((ReflectliteType.abiMethod fun t => (fun a : Nat => Value.int IntKind.u8 (a : Int)) <$> Rtype.kind t) #[.pointer (some ⟨1, 140, none⟩)]).run Tryz.prog w = .ok (.int .u8 25) w := by kernel_rfl
theorem asRlm (z : Sem Value) (f : TypeId → Addr → Nat → Nat → Sem Value) (v : Value) :
    ReflectliteValue.method z f #[v] = (do match ← ReflectliteValue.parts v with | none => z | some (t, a, fl) => f t a fl (fl % 32)) := rfl
theorem asPartsP (a : Addr) (w : World) : (ReflectliteValue.parts (.agg #[.pointer (some ⟨1, 143, none⟩), .pointer (some a), .int .u64 150])).run Tryz.prog w = .ok (some (143, a, 150)) w := by kernel_rfl
theorem asIsNilP (a p : Addr) (W : World) (ha : W.cell? a = some (.pointer (some p))) :
    (ReflectliteValue.method (ReflectliteValue.valueError "reflectlite.Value.IsNil" 0) ReflectliteValue.isNil #[.agg #[.pointer (some ⟨1, 143, none⟩), .pointer (some a), .int .u64 150]]).run Tryz.prog W = .ok (.bool false) W := by
  rw [asRlm]
  simp only [Sem.run_bind, asPartsP, Result.andThen]
  simp [ReflectliteValue.isNil, loadVar, isAgg, underlying, Tryz.underlying143, ha, Result.andThen]
theorem asMethodElem (h : Value) (w : World) : (Go.method 355 151 (.agg #[h]) "Elem").run Tryz.prog w = .ok (168, .agg #[h]) w := by kernel_rfl
theorem asMethodImplements (h : Value) (w : World) : (Go.method 355 151 (.agg #[h]) "Implements").run Tryz.prog w = .ok (169, .agg #[h]) w := by kernel_rfl
theorem asMethodAssignableTo (h : Value) (w : World) : (Go.method 355 151 (.agg #[h]) "AssignableTo").run Tryz.prog w = .ok (166, .agg #[h]) w := by kernel_rfl
theorem asElemP (w : World) : (ReflectliteType.method ReflectliteType.elem #[.agg #[.pointer (some ⟨1, 143, none⟩)]]).run Tryz.prog w = .ok (.iface 151 (.agg #[.pointer (some ⟨1, 140, none⟩)])) w := by kernel_rfl
theorem asImplementsF (w : World) : (ReflectliteType.relation "Implements" ReflectliteType.implements_ #[.agg #[.pointer (some ⟨1, 140, none⟩)], .iface 151 (.agg #[.pointer (some ⟨1, 96, none⟩)])]).run Tryz.prog w = .ok (.bool true) w := by kernel_rfl
theorem asTypeOfF (v : Value) (w : World) : (ReflectliteType.typeOf #[.iface 140 v]).run Tryz.prog w = .ok (.iface 151 (.agg #[.pointer (some ⟨1, 140, none⟩)])) w := by kernel_rfl
theorem asTypeOfJ (v : Value) (w : World) : (ReflectliteType.typeOf #[.iface 177 v]).run Tryz.prog w = .ok (.iface 151 (.agg #[.pointer (some ⟨1, 177, none⟩)])) w := by kernel_rfl
theorem asAssignableF (w : World) : (ReflectliteType.relation "AssignableTo" ReflectliteType.assignableTo #[.agg #[.pointer (some ⟨1, 140, none⟩)], .iface 151 (.agg #[.pointer (some ⟨1, 140, none⟩)])]).run Tryz.prog w = .ok (.bool true) w := by kernel_rfl
theorem asAssignableJ (w : World) : (ReflectliteType.relation "AssignableTo" ReflectliteType.assignableTo #[.agg #[.pointer (some ⟨1, 177, none⟩)], .iface 151 (.agg #[.pointer (some ⟨1, 140, none⟩)])]).run Tryz.prog w = .ok (.bool false) w := by kernel_rfl
theorem asValueOfF (x y : Int) (w : World) : (ReflectliteValue.unpack (.iface 140 (.agg #[.int .i64 x, .int .i64 y]))).run Tryz.prog w
    = .ok (.agg #[.pointer (some ⟨1, 140, none⟩), .pointer (some ⟨w.heap.size, 0, none⟩), .int .u64 153]) (w.alloc (.cells #[.int .i64 x, .int .i64 y] 140)) := by kernel_rfl
theorem asElemOfP (w : World) : (Rtype.elem? 143).run Tryz.prog w = .ok (some 140) w := by kernel_rfl
theorem asMkF (p : Addr) (w : World) : (ReflectliteValue.mk 140 p ReflectliteValue.flagAddr).run Tryz.prog w = .ok (.agg #[.pointer (some ⟨1, 140, none⟩), .pointer (some p), .int .u64 409]) w := by kernel_rfl
theorem asElemVP (a p : Addr) (W : World) (ha : W.cell? a = some (.pointer (some p))) :
    (ReflectliteValue.method (ReflectliteValue.valueError "reflectlite.Value.Elem" 0) ReflectliteValue.elem #[.agg #[.pointer (some ⟨1, 143, none⟩), .pointer (some a), .int .u64 150]]).run Tryz.prog W
      = .ok (.agg #[.pointer (some ⟨1, 140, none⟩), .pointer (some p), .int .u64 409]) W := by
  rw [asRlm]
  simp only [Sem.run_bind, asPartsP, Result.andThen]
  simp [ReflectliteValue.elem, loadVar, isAgg, underlying, Tryz.underlying143, ha, Result.andThen, asElemOfP, asMkF]
theorem asRls (v x : Value) : ReflectliteValue.set #[v, x] = (do
    let (some (dst, a, fl), some (src, b, _)) := (← ReflectliteValue.parts v, ← ReflectliteValue.parts x)
      | unsupported (.noEntry "extern/(internal/reflectlite.Value).Set.zeroValue")
    if fl / ReflectliteValue.flagAddr % 2 == 0 then unsupported (.noEntry "extern/(internal/reflectlite.Value).Set.unaddressable")
    let val ← loadVar src b
    if ← Rtype.directlyAssignable dst src then storeVar dst a val
    else if ← Rtype.implements dst src then
      if (← Rtype.kind src) == 20 then
        match val with
        | .nilIface => unsupported (.noEntry "extern/reflectlite: a nil value of one interface type handed on as a value of another")
        | _ => storeVar dst a val
      else storeVar dst a (.iface src val)
    else panicString ("reflectlite.Set: value of type " ++ (← Rtype.spelt src) ++ " is not assignable to type " ++ (← Rtype.spelt dst))
    pure (.tuple #[])) := rfl
theorem asPartsFa (a : Addr) (w : World) : (ReflectliteValue.parts (.agg #[.pointer (some ⟨1, 140, none⟩), .pointer (some a), .int .u64 409])).run Tryz.prog w = .ok (some (140, a, 409)) w := by kernel_rfl
theorem asPartsF (a : Addr) (w : World) : (ReflectliteValue.parts (.agg #[.pointer (some ⟨1, 140, none⟩), .pointer (some a), .int .u64 153])).run Tryz.prog w = .ok (some (140, a, 153)) w := by kernel_rfl
theorem asDirectF (w : World) : (Rtype.directlyAssignable 140 140).run Tryz.prog w = .ok true w := by kernel_rfl
theorem asLoadF (b o : Nat) (x y : Int) (W : World) (h0 : W.cell? ⟨b, o, none⟩ = some (.int .i64 x)) (h1 : W.cell? ⟨b, o + 1, none⟩ = some (.int .i64 y)) :
    (loadVar 140 ⟨b, o, none⟩).run Tryz.prog W = .ok (.agg #[.int .i64 x, .int .i64 y]) W := by
  simp [go_sem, h0, h1]
theorem asStoreF (b o : Nat) (x y : Int) (u v : Value) (W : World) (h0 : W.cell? ⟨b, o, none⟩ = some u) (h1 : W.cell? ⟨b, o + 1, none⟩ = some v) (f0 : W.frozen? ⟨b, o, none⟩ = false) (f1 : W.frozen? ⟨b, o + 1, none⟩ = false) :
    (storeVar 140 ⟨b, o, none⟩ (.agg #[.int .i64 x, .int .i64 y])).run Tryz.prog W = .ok () ((W.setCell ⟨b, o, none⟩ (.int .i64 x)).setCell ⟨b, o + 1, none⟩ (.int .i64 y)) := by
  have h1' := (cell_off (W := W) (b := b) (i := o) (j := o + 1) (x := .int .i64 x) (by omega)).trans h1
  simp [go_sem, storeVar, h0, h1, f0, f1, h1']
end Go.Proofs.YtalmjdlcogdpmaaGreatDoor

namespace Go.Proofs.YtalmjdlcogdpmaaGreatDoor
open Go.RowKit
theorem run_neq_iface_nil' {P : Program} {ti : TypeId} {ms : Array (String × TypeId)} (tp : TypeId) (v : Value) (w : World) (hi : P.underlying ti = some (.interface ms)) :
    (binOp .neq ti (.iface tp v) .nilIface).run P w = .ok (.bool true) w := by
  have h : ∀ d : Nat, (Op.equalIn (d + 1) ti (.iface tp v) .nilIface).run P w = .ok false w := fun d => by simp [Op.equalIn, run_underlying hi]
  simp only [binOp]
  simp [Op.equal, Op.maxDepth, h 9999]
theorem run_eql_iface_nil' {P : Program} {ti : TypeId} {ms : Array (String × TypeId)} (tp : TypeId) (v : Value) (w : World) (hi : P.underlying ti = some (.interface ms)) :
    (binOp .eql ti (.iface tp v) .nilIface).run P w = .ok (.bool false) w := by
  have h : ∀ d : Nat, (Op.equalIn (d + 1) ti (.iface tp v) .nilIface).run P w = .ok false w := fun d => by simp [Op.equalIn, run_underlying hi]
  simp only [binOp]
  simp [Op.equal, Op.maxDepth, h 9999]
/-- What errors.Join makes of one fault: a joinError in block J whose slice's row R holds it. -/
def JoinPost (v : Value) (w : World) (e : Ending) (w' : World) : Prop :=
  ∃ J R, e = .returned (.iface 177 (.pointer (some ⟨J, 0, none⟩))) ∧ Up w w' ∧ w'.cell? ⟨J, 0, none⟩ = some (.slice (some ⟨R, 0, none⟩) 1 1) ∧ w'.cell? ⟨R, 0, none⟩ = some (.iface 140 v) ∧ w.heap.size ≤ R ∧ w.heap.size ≤ J
theorem make_errs (w : World) : (Instr.makeSlice 158 (.int .i64 0) (.int .i64 1)).run Tryz.prog w = .ok (.slice (some ⟨w.heap.size, 0, none⟩) 0 1) (w.alloc (.cells #[.nilIface] 96)) := by kernel_rfl
set_option maxRecDepth 100000 in
set_option maxHeartbeats 1000000 in
theorem join_one (b : Nat) (v : Value) (w : World) (hc : w.cell? ⟨b, 0, none⟩ = some (.iface 140 v)) :
    Calls Tryz.prog 61 #[.slice (some ⟨b, 0, none⟩) 1 1] w (JoinPost v w) := by
  have hlt := World.block_lt_of_cell? w _ hc
  have hne := fun W => run_neq_iface_nil' (P := Tryz.prog) 140 v W Tryz.underlying96
  have hmk := make_errs
  go_enter Tryz.func61, Tryz.ntmps61
  go_wp2
  refine wp_loop_rounds 2 ?_
  rw [rounds_succ]
  go_wp2
  rw [rounds_succ]
  go_wp2
  refine wp_loop_rounds 2 ?_
  rw [rounds_succ]
  go_wp2
  rw [rounds_succ]
  go_wp2
  refine bodyPost_ret (results_tmp rfl _ _ _) rfl ?_
  exact ⟨w.heap.size + 1, w.heap.size, rfl, ((alloc_up _ _ _).trans (alloc_up _ _ _)).trans (alloc_up _ _ _), by simp [go_sem], by simp [go_sem], Nat.le_refl _, Nat.le_succ _⟩

open Go.Extern Go.Extern.Stop Go.Stop
theorem asSetF (T b : Nat) (x y : Int) (u v : Value) (W : World) (h0 : W.cell? ⟨b, 0, none⟩ = some (.int .i64 x)) (h1 : W.cell? ⟨b, 1, none⟩ = some (.int .i64 y)) (t0 : W.cell? ⟨T, 0, none⟩ = some u) (t1 : W.cell? ⟨T, 1, none⟩ = some v) (f0 : W.frozen? ⟨T, 0, none⟩ = false) (f1 : W.frozen? ⟨T, 1, none⟩ = false) :
    (ReflectliteValue.set #[.agg #[.pointer (some ⟨1, 140, none⟩), .pointer (some ⟨T, 0, none⟩), .int .u64 409], .agg #[.pointer (some ⟨1, 140, none⟩), .pointer (some ⟨b, 0, none⟩), .int .u64 153]]).run Tryz.prog W
      = .ok (.tuple #[]) ((W.setCell ⟨T, 0, none⟩ (.int .i64 x)).setCell ⟨T, 1, none⟩ (.int .i64 y)) := by
  rw [asRls]
  have hl := asLoadF b 0 x y W h0 (by simpa using h1)
  have hs := asStoreF T 0 x y u v W t0 (by simpa using t1) f0 (by simpa using f1)
  simp only [Nat.zero_add] at hs
  simp only [Sem.run_bind, asPartsFa, asPartsF, Result.andThen]
  simp [ReflectliteValue.flagAddr, hl, asDirectF, hs, Result.andThen]

theorem asNoAs (v : Value) (tp : TypeId) (xT : TypeId) (w : World) (h : tp = 177) : (Instr.typeAssert (.iface tp v) xT 183 true).run Tryz.prog w = .ok (.tuple #[.nilIface, .bool false]) w := by
  subst h
  exact run_typeAssert_lacksB Tryz.underlying183 (by kernel_rfl) (by kernel_rfl) v xT w
theorem asNoUnwrap (v : Value) (xT : TypeId) (w : World) : (Instr.typeAssert (.iface 177 v) xT 156 true).run Tryz.prog w = .ok (.tuple #[.nilIface, .bool false]) w := run_typeAssert_lacksB Tryz.underlying156 (by kernel_rfl) (by kernel_rfl) v xT w
theorem asUnwraps (v : Value) (xT : TypeId) (w : World) : (Instr.typeAssert (.iface 177 v) xT 157 true).run Tryz.prog w = .ok (.tuple #[.iface 177 v, .bool true]) w := run_typeAssert_hasB Tryz.underlying157 (by kernel_rfl) v xT w
theorem asMethodUnwraps (v : Value) (w : World) : (Go.method 355 177 v "Unwrap").run Tryz.prog w = .ok (182, v) w := by kernel_rfl

set_option maxRecDepth 100000 in
set_option maxHeartbeats 4000000 in
/-- errors.as at a fault itself. -/
theorem as_fault (T V : Nat) (x y : Int) (u v : Value) (w : World) (hV : w.cell? ⟨V, 0, none⟩ = some (.pointer (some ⟨T, 0, none⟩))) (t0 : w.cell? ⟨T, 0, none⟩ = some u) (t1 : w.cell? ⟨T, 1, none⟩ = some v) (f0 : w.frozen? ⟨T, 0, none⟩ = false) (f1 : w.frozen? ⟨T, 1, none⟩ = false) :
    Calls Tryz.prog 66 #[.iface 140 (.agg #[.int .i64 x, .int .i64 y]), .iface 143 (.pointer (some ⟨T, 0, none⟩)), .agg #[.pointer (some ⟨1, 143, none⟩), .pointer (some ⟨V, 0, none⟩), .int .u64 150], .iface 151 (.agg #[.pointer (some ⟨1, 140, none⟩)])]
      w fun e w' => e = .returned (.bool true) ∧ Chg (· = T) w w' ∧ w'.cell? ⟨T, 0, none⟩ = some (.int .i64 x) ∧ w'.cell? ⟨T, 1, none⟩ = some (.int .i64 y) := by
  have h6 := @run_callFunc_extern Tryz.prog 63 _ (fun args => ReflectliteValue.unpack (args.getD 0 (.tuple #[]))) Tryz.func63 (by kernel_rfl) (by kernel_rfl) (by kernel_rfl) (by kernel_rfl)
  have h10 := @run_callFunc_extern Tryz.prog 49 _ ReflectliteType.typeOf Tryz.func49 (by kernel_rfl) (by kernel_rfl) (by kernel_rfl) (by kernel_rfl)
  have h35 := @run_callFunc_extern Tryz.prog 166 _ (ReflectliteType.relation "AssignableTo" ReflectliteType.assignableTo) Tryz.func166 (by kernel_rfl) (by kernel_rfl) (by kernel_rfl) (by kernel_rfl)
  have h11 := @run_callFunc_extern Tryz.prog 86 _ (ReflectliteValue.method (ReflectliteValue.valueError "reflectlite.Value.Elem" 0) ReflectliteValue.elem) Tryz.func86 (by kernel_rfl) (by kernel_rfl) (by kernel_rfl) (by kernel_rfl)
  have h12 := @run_callFunc_extern Tryz.prog 87 _ ReflectliteValue.set Tryz.func87 (by kernel_rfl) (by kernel_rfl) (by kernel_rfl) (by kernel_rfl)
  have tO := asTypeOfF
  have mA := asMethodAssignableTo
  have aF := asAssignableF
  have vF := asValueOfF x y
  have hB : ∀ cs t, Up w (w.alloc (.cells cs t)) := fun cs t => alloc_up _ _ _
  have el := asElemVP ⟨V, 0, none⟩ ⟨T, 0, none⟩ (w.alloc (.cells #[.pointer (some ⟨1, 143, none⟩), .pointer (some ⟨V, 0, none⟩), .int .u64 150] 168)) (cell_up (hB _ _) hV)
  have hB2 : Up w ((w.alloc (.cells #[.pointer (some ⟨1, 143, none⟩), .pointer (some ⟨V, 0, none⟩), .int .u64 150] 168)).alloc (.cells #[.int .i64 x, .int .i64 y] 140)) := (hB _ _).trans (alloc_up _ _ _)
  have st := asSetF T (w.heap.size + 1) x y u v ((w.alloc (.cells #[.pointer (some ⟨1, 143, none⟩), .pointer (some ⟨V, 0, none⟩), .int .u64 150] 168)).alloc (.cells #[.int .i64 x, .int .i64 y] 140))
    (by rw [World.cell?_alloc_at _ _ _ _ (by simp)]; rfl) (by rw [World.cell?_alloc_at _ _ _ _ (by simp)]; rfl) (cell_up hB2 t0) (cell_up hB2 t1) ((hB2.2 _).trans f0) ((hB2.2 _).trans f1)
  have c0 := cell_off' (i := 1) (j := 0) (x := .int .i64 y) (by omega) (World.cell?_setCell_same _ _ (.int .i64 x) (cell_up hB2 t0))
  have c1 := World.cell?_setCell_same _ _ (.int .i64 y) (cell_off' (i := 0) (j := 1) (x := .int .i64 x) (by omega) (cell_up hB2 t1))
  have hch := ((Chg.of_up (S := (· = T)) hB2).setCell (p := ⟨T, 0, none⟩) (Or.inl rfl) (.int .i64 x)).setCell (p := ⟨T, 1, none⟩) (Or.inl rfl) (.int .i64 y)
  have HC := Lib.hid (And.intro hch (And.intro c0 c1))
  clear hch c0 c1 hB hB2 t0 t1 f0 f1
  go_enter Tryz.func66, Tryz.ntmps66
  go_wp2
  refine wp_loop_rounds 1 ?_
  rw [rounds_succ]
  go_wp2
  go_ret
  exact ⟨rfl, HC.out⟩
end Go.Proofs.YtalmjdlcogdpmaaGreatDoor

namespace Go.Proofs.YtalmjdlcogdpmaaGreatDoor
open Go.RowKit
attribute [local go_sem] upUpon_value upUpon_enter upUpon_skip upUpon_row ucUpon_value ucUpon_skip ucUpon_enter ucUpon_row

theorem assert_fault (x y : Int) (w : World) : (Instr.typeAssert (.iface 140 (.agg #[.int .i64 x, .int .i64 y])) 20 140 true).run Tryz.prog w = .ok (.tuple #[.agg #[.int .i64 x, .int .i64 y], .bool true]) w := by kernel_rfl

set_option maxRecDepth 100000 in
set_option maxHeartbeats 1000000 in
/-- The deferred function of a frame that returns: nothing. -/
theorem rec_none (b : Nat) (w : World) : CallsD Tryz.prog 60 #[.pointer (some ⟨b, 0, none⟩)] .returning w fun e u' w' => e = .returned (.tuple #[]) ∧ u' = .returning ∧ w' = w := by
  refine callsD_of_wpS Tryz.func60 rfl fun c₀ cs hu => ?_
  apply wpS_seq
  apply wpS_region
  simp [wpOpsS, go_sem, recoverD, hu, Tryz.ntmps60, Exit.thenS]
  refine wpS_of_wp ?_
  simp only [Array.replicate_succ, Array.replicate_zero, List.push_toArray, List.nil_append, List.cons_append, List.append_toArray, Nat.reduceSub, Nat.reduceAdd, List.setIfInBounds_toArray, List.set_cons_succ, List.set_cons_zero]
  go_wp2
  cases c₀
  simp_all [bodyPostS, results, Tryz.results60]

set_option maxRecDepth 100000 in
set_option maxHeartbeats 1000000 in
/-- The deferred function of a frame that gave up with a fault: recovered, the error laid. -/
theorem rec_fault (b : Nat) (x y : Int) (u : Value) (w : World) (hb : w.cell? ⟨b, 0, none⟩ = some u) (hf : w.frozen? ⟨b, 0, none⟩ = false) :
    CallsD Tryz.prog 60 #[.pointer (some ⟨b, 0, none⟩)] (.panicking [{ v := .iface 140 (.agg #[.int .i64 x, .int .i64 y]), recovered := false }]) w fun e u' w' =>
      e = .returned (.tuple #[]) ∧ u' = .panicking [{ v := .iface 140 (.agg #[.int .i64 x, .int .i64 y]), recovered := true }] ∧ ∃ J R w2, Up w w2 ∧ w2.cell? ⟨J, 0, none⟩ = some (.slice (some ⟨R, 0, none⟩) 1 1) ∧ w2.cell? ⟨R, 0, none⟩ = some (.iface 140 (.agg #[.int .i64 x, .int .i64 y])) ∧ w.heap.size ≤ R ∧ w.heap.size ≤ J ∧ w' = w2.setCell ⟨b, 0, none⟩ (.iface 177 (.pointer (some ⟨J, 0, none⟩))) := by
  refine callsD_of_wpS Tryz.func60 rfl fun c₀ cs hu => ?_
  apply wpS_seq
  apply wpS_region
  simp [wpOpsS, go_sem, recoverD, hu, Tryz.ntmps60, Exit.thenS]
  refine wpS_of_wp ?_
  simp only [Array.replicate_succ, Array.replicate_zero, List.push_toArray, List.nil_append, List.cons_append, List.append_toArray, Nat.reduceSub, Nat.reduceAdd, List.setIfInBounds_toArray, List.set_cons_succ, List.set_cons_zero]
  have ha := assert_fault x y
  go_wp2_with fail
  refine (join_one _ (.agg #[.int .i64 x, .int .i64 y]) _ (by simp [go_sem])).mono ?_
  rintro e w2 ⟨J, R, rfl, hu2, hJ, hR, hge, hgj⟩
  have hu1 : Up w w2 := ((alloc_up _ _ _).trans (alloc_up _ _ _)).trans hu2
  have hb2 := cell_up hu1 hb
  have hf2 := (hu1.2 _).trans hf
  go_wp2
  refine ⟨rfl, _, by cases c₀; rfl, _, results_none rfl _ _ _, rfl, rfl, J, R, w2, hu1, hJ, hR, by simp at hge; omega, by simp at hgj; omega, rfl⟩

/-- The handler's loop, with so many instructions left. -/
def runF (E : Env) : Nat → St → Except Int St
  | 0, s => .ok s
  | n + 1, s => if s.a < E.np then (match step1 E (E.p s.a.toNat) { s with a := s.a + 1 } with | .ok s' => runF E n s' | .error f => .error f) else .ok s
theorem runF_go {E : Env} {n : Nat} {s s' : St} (h : s.a < E.np) (hs : step1 E (E.p s.a.toNat) { s with a := s.a + 1 } = .ok s') : runF E (n + 1) s = runF E n s' := by
  rw [runF, if_pos h, hs]
theorem runF_err {E : Env} {n : Nat} {s : St} {f : Int} (h : s.a < E.np) (hs : step1 E (E.p s.a.toNat) { s with a := s.a + 1 } = .error f) : runF E (n + 1) s = .error f := by
  rw [runF, if_pos h, hs]
theorem runF_end {E : Env} {n : Nat} {s : St} (h : ¬ s.a < E.np) : runF E n s = .ok s := by
  cases n
  · rfl
  · rw [runF, if_neg h]

theorem InsRow.chg {S : Nat → Prop} {w w' : World} {b o n : Nat} {l : Nat → Ins} (h : InsRow w b o n l) (hc : Chg S w w') (hn : ¬ S b) : InsRow w' b o n l :=
  fun i hi => ⟨hc.cell hn (h i hi).1, hc.cell hn (h i hi).2.1, hc.cell hn (h i hi).2.2.1, hc.cell hn (h i hi).2.2.2⟩
theorem InsSlice.at' {w : World} {pl : Option Addr} {nl cl : Nat} {l : Nat → Ins} (h : InsSlice w (.slice pl nl cl) nl l) (h0 : 0 < nl) : ∃ b o, pl = some ⟨b, o, none⟩ ∧ InsRow w b o nl l := by
  rcases h with ⟨b, o, cap, hv, hr⟩ | ⟨_, hn⟩
  · injection hv with h1 _ _; exact ⟨b, o, h1, hr⟩
  · omega
theorem set4 {W : World} {B : Nat} {u0 u1 u2 u3 : Value} (h0 : W.cell? ⟨B, 0, none⟩ = some u0) (h1 : W.cell? ⟨B, 1, none⟩ = some u1) (h2 : W.cell? ⟨B, 2, none⟩ = some u2) (h3 : W.cell? ⟨B, 3, none⟩ = some u3) (v0 v1 v2 v3 : Value) :
    ((((W.setCell ⟨B, 0, none⟩ v0).setCell ⟨B, 1, none⟩ v1).setCell ⟨B, 2, none⟩ v2).setCell ⟨B, 3, none⟩ v3).cell? ⟨B, 0, none⟩ = some v0 ∧ ((((W.setCell ⟨B, 0, none⟩ v0).setCell ⟨B, 1, none⟩ v1).setCell ⟨B, 2, none⟩ v2).setCell ⟨B, 3, none⟩ v3).cell? ⟨B, 1, none⟩ = some v1 ∧ ((((W.setCell ⟨B, 0, none⟩ v0).setCell ⟨B, 1, none⟩ v1).setCell ⟨B, 2, none⟩ v2).setCell ⟨B, 3, none⟩ v3).cell? ⟨B, 2, none⟩ = some v2 ∧ ((((W.setCell ⟨B, 0, none⟩ v0).setCell ⟨B, 1, none⟩ v1).setCell ⟨B, 2, none⟩ v2).setCell ⟨B, 3, none⟩ v3).cell? ⟨B, 3, none⟩ = some v3 :=
  have h := set3 h0 h1 h2 v0 v1 v2
  ⟨cell_off' (by omega) h.1, cell_off' (by omega) h.2.1, cell_off' (by omega) h.2.2, World.cell?_setCell_same _ _ _ (cell_off' (by omega) (cell_off' (by omega) (cell_off' (by omega) h3)))⟩
theorem lnk_chg {S : Nat → Prop} {w w' : World} {v : Value} {n : Nat} {l : Nat → Lnk} (h : LnkSlice w v n l) (hc : Chg S w w') (hn : ∀ x, sameBlock v x → x < w.heap.size → ¬ S x) : LnkSlice w' v n l := by
  rcases h with ⟨b, o, cap, hv, hr⟩ | h
  · subst hv
    refine Or.inl ⟨b, o, cap, rfl, fun i hi => ?_⟩
    have hb : ¬ S b := hn b rfl (World.block_lt_of_cell? w _ (hr i hi).1)
    exact ⟨hc.cell hb (hr i hi).1, hc.cell hb (hr i hi).2.1, hc.cell hb (hr i hi).2.2.1, hc.cell hb (hr i hi).2.2.2⟩
  · exact Or.inr h
theorem op_enters : ∀ k : Nat, k < 17 → Go.Proofs.Enters Tryz.prog (opFn k)
  | 0, _ => Go.Proofs.enters_of Tryz.func69 (by kernel_rfl) rfl
  | 1, _ => Go.Proofs.enters_of Tryz.func70 (by kernel_rfl) rfl
  | 2, _ => Go.Proofs.enters_of Tryz.func71 (by kernel_rfl) rfl
  | 3, _ => Go.Proofs.enters_of Tryz.func72 (by kernel_rfl) rfl
  | 4, _ => Go.Proofs.enters_of Tryz.func73 (by kernel_rfl) rfl
  | 5, _ => Go.Proofs.enters_of Tryz.func74 (by kernel_rfl) rfl
  | 6, _ => Go.Proofs.enters_of Tryz.func75 (by kernel_rfl) rfl
  | 7, _ => Go.Proofs.enters_of Tryz.func76 (by kernel_rfl) rfl
  | 8, _ => Go.Proofs.enters_of Tryz.func77 (by kernel_rfl) rfl
  | 9, _ => Go.Proofs.enters_of Tryz.func78 (by kernel_rfl) rfl
  | 10, _ => Go.Proofs.enters_of Tryz.func79 (by kernel_rfl) rfl
  | 11, _ => Go.Proofs.enters_of Tryz.func80 (by kernel_rfl) rfl
  | 12, _ => Go.Proofs.enters_of Tryz.func81 (by kernel_rfl) rfl
  | 13, _ => Go.Proofs.enters_of Tryz.func82 (by kernel_rfl) rfl
  | 14, _ => Go.Proofs.enters_of Tryz.func83 (by kernel_rfl) rfl
  | 15, _ => Go.Proofs.enters_of Tryz.func84 (by kernel_rfl) rfl
  | 16, _ => Go.Proofs.enters_of Tryz.func85 (by kernel_rfl) rfl
  | n + 17, h => by omega
theorem map_up (w : World) (es : Array MapEntry) (n : Nat) : Up w (w.alloc (.map es n)) :=
  ⟨(Below.refl _ _).alloc (Nat.le_refl _) _, fun a => by
    rcases Nat.lt_trichotomy a.block w.heap.size with h | h | h
    · exact World.frozen?_alloc_old _ _ _ (Nat.ne_of_lt h)
    · have h1 := (MapKept.heap_alloc w (.map es n)).1
      rw [← h] at h1
      rw [World.frozen?, h1, frozen_new w a (Nat.le_of_eq h.symm)]
    · exact World.frozen?_alloc_old _ _ _ (by omega)⟩
def RunPost (B c : Nat) (vp vl : Value) (E : Env) (s : St) (w : World) (e : Ending) (w' : World) : Prop :=
  Chg (fun k => k = c ∨ B ≤ k) w w' ∧
  match runF E 4096 s with
  | .ok s' => e = .returned .nilIface ∧ StIs B c vp vl E s' w'
  | .error f => ∃ J R i, e = .returned (.iface 177 (.pointer (some ⟨J, 0, none⟩))) ∧ w'.cell? ⟨J, 0, none⟩ = some (.slice (some ⟨R, 0, none⟩) 1 1) ∧ w'.cell? ⟨R, 0, none⟩ = some (.iface 140 (.agg #[.int .i64 i, .int .i64 f]))

theorem run_end {c : Nat} {vp vl : Value} {E : Env} {s s' : St} {w W1 wr W3 W4 : World} (hU : Up w W1) (hch : Chg (fun x => x = c ∨ w.heap.size + 2 ≤ x) W1 wr) (hst : StIs (w.heap.size + 2) c vp vl E s' wr) (hr : runF E 4096 s = .ok s')
    (hu : Up wr W3) (hlt : c < w.heap.size) (h4 : Up (W3.setCell ⟨w.heap.size, 0, none⟩ .nilIface) W4) : RunPost (w.heap.size + 2) c vp vl E s w (.returned .nilIface) W4 := by
  obtain ⟨vo, hc, ho, hb⟩ := hst
  have h1 : Chg (· = w.heap.size) W3 (W3.setCell ⟨w.heap.size, 0, none⟩ .nilIface) := (Chg.refl (· = w.heap.size) W3).setCell (Or.inl rfl) _
  refine ⟨((((Chg.of_up hU).trans hch (fun _ _ h => h)).up hu).setCell (Or.inr (Nat.le_refl _)) _).up h4, ?_⟩
  rw [hr]
  exact ⟨rfl, vo, ((hc.up hu).chg h1 (by omega)).up h4, ((ho.up hu).chg h1 (fun k hk e => by have := (hb k hk).1; omega)).up h4, hb⟩
set_option maxRecDepth 100000 in
set_option maxHeartbeats 2000000 in
theorem run_any (c : Nat) (pv pl : Option Addr) (cv cl : Nat) (E : Env) (hE : GoodE E) (s : St) (hS : GoodS E 0 s) (ho : s.o = []) (hp : ∀ i, i < E.np → insB E.p E.np i = true) (w : World)
    (h : CpuIs w c (.slice pv E.np cv) (.slice pl E.nl cl) E.me E.seed E.m ⟨s.r, s.d, .slice none 0 0, s.a⟩) (hl : LnkSlice w (.slice pl E.nl cl) E.nl E.l) (hi : InsSlice w (.slice pv E.np cv) E.np E.p)
    (hlc : ∀ k, sameBlock (.slice pl E.nl cl) k → k ≠ c) (hic : ∀ k, sameBlock (.slice pv E.np cv) k → k ≠ c) :
    Calls Tryz.prog 53 #[.pointer (some ⟨c, 0, none⟩)] w (RunPost (w.heap.size + 2) c (.slice pv E.np cv) (.slice pl E.nl cl) E s w) := by
  have hmf : ∀ (fn : Fn) (first cap : Array Value) (w : World), (Instr.makeFunc fn first cap).run Tryz.prog w = .ok (.func fn first cap) w := fun _ _ _ _ => rfl
  have H := Lib.hid h
  have HL := Lib.hid hl
  have HI := Lib.hid hi
  clear h hl hi
  go_enter_defers Tryz.func53, Tryz.ntmps53
  go_wp2_with fail
  refine (operators_any _).mono ?_
  rintro e w1 ⟨rfl, rfl⟩
  go_wp2
  have hU1 : Up w ((w.alloc (.cells #[.nilIface] 96)).alloc (.map opsE 17)) := (alloc_up _ _ _).trans (map_up _ _ _)
  have e0 : ((w.alloc (.cells #[.nilIface] 96)).alloc (.map opsE 17)).cell? ⟨w.heap.size, 0, none⟩ = some .nilIface := by simp [go_sem]
  have e1 : ((w.alloc (.cells #[.nilIface] 96)).alloc (.map opsE 17)).frozen? ⟨w.heap.size, 0, none⟩ = false := (hU1.2 _).trans (frozen_new _ _ (Nat.le_refl _))
  have e2 : ((w.alloc (.cells #[.nilIface] 96)).alloc (.map opsE 17)).heap[w.heap.size + 1]? = some (.map opsE 17) := by have := (MapKept.heap_alloc (w.alloc (.cells #[.nilIface] 96)) (.map opsE 17)).1; simpa using this
  have e3 : ((w.alloc (.cells #[.nilIface] 96)).alloc (.map opsE 17)).heap.size = w.heap.size + 2 := by simp
  generalize ((w.alloc (.cells #[.nilIface] 96)).alloc (.map opsE 17)) = W1 at *
  have hlt := H.out.here
  have HU1 := Lib.hid hU1
  have HE := Lib.hid (And.intro e0 (And.intro e1 (And.intro e2 e3)))
  have HO := Lib.hid ho
  have HS := Lib.hid hS
  clear hU1 e0 e1 e2 e3 ho hS
  go_loopw [4] (fun f wr => ∃ (k : Nat) (s' : St), k ≤ 4096 ∧ f = .int .i64 k ∧ Hid (runF E 4096 s = runF E k s') ∧ Hid (GoodS E (4096 - k) s') ∧ Hid (Chg (fun x => x = c ∨ w.heap.size + 2 ≤ x) W1 wr) ∧ Hid (StIs (w.heap.size + 2) c (.slice pv E.np cv) (.slice pl E.nl cl) E s' wr)) (fun f _ => (intOf f).toNat)
  case atStart =>
    refine ⟨4096, s, Nat.le_refl _, rfl, Lib.hid rfl, Lib.hid ?_, Lib.hid (Chg.refl _ _), Lib.hid ⟨_, H.out.up HU1.out, ?_, ?_⟩⟩
    · simpa using HS.out
    · rw [HO.out]; exact OwnR.nil _ _ _
    · intro k hk; simp [sameBlock, Value.ownBlock] at hk
  case round =>
    obtain ⟨k, s', hk, rfl, hrun, hgood, hchg, hst⟩ := hrel
    obtain ⟨vo, hc, hown, hbl⟩ := hst.out
    have c_a := hc.a
    have c_p := hc.n0
    have hsz := HE.out.2.2.2
    have c_e := hchg.out.cell (by simp only [not_or]; exact ⟨by omega, by omega⟩) HE.out.1
    have f_e := (hchg.out.marks _).trans HE.out.2.1
    have hlr : w.heap.size < wr.heap.size := by have := hchg.out.size; omega
    by_cases hgo : 0 < k ∧ s'.a < E.np
    · obtain ⟨hk0, hat⟩ := hgo
      obtain ⟨q, hq⟩ : ∃ q : Nat, s'.a = q := ⟨s'.a.toNat, by have := hgood.out.a0; omega⟩
      have hqn : q < E.np := by omega
      rw [hq] at c_a
      have hIr : Up w W1 := HU1.out
      obtain ⟨ib, io, hpv, hrow⟩ := HI.out.at' (by omega)
      have hib : ib ≠ c := hic ib (by rw [hpv]; rfl)
      have hrw := (hrow.up hIr).chg hchg.out (by simp only [not_or]; exact ⟨hib, by have h9 : ib < w.heap.size := World.block_lt_of_cell? w _ (hrow q hqn).1; omega⟩)
      subst hpv
      obtain ⟨r0, r1, r2, r3⟩ := hrw q hqn
      have hmay := hp q hqn
      unfold insB at hmay
      have HK := Lib.hid hat
      have HQ := Lib.hid hq
      have HRW := Lib.hid hrw
      have HROW := Lib.hid hrow
      clear hat hq hrw hrow
      have hstp : ∀ x, E.p q = x → E.p s'.a.toNat = x := fun x hx => by rw [HQ.out]; exact hx
      have HST := Lib.hid hstp
      clear hstp
      obtain ⟨x, hx⟩ : ∃ x, E.p q = x := ⟨_, rfl⟩
      rw [hx] at r0 r1 r2 r3 hmay
      have HX := Lib.hid hx
      clear hx
      obtain ⟨op, xa, xb, xc⟩ := x
      simp only at r0 r1 r2 r3 hmay
      obtain ⟨kk, rfl, hkk, _⟩ := may_split hmay
      have HM := Lib.hid hmay
      have k1 := lift c_a
      have k2 := lift c_p
      clear hmay
      go_wp2
      refine region_upL0 [0, 1, 2, 3, 4, 5, 6, 7, 8, 9, 10, 11, 12, 13] [] 14 [] (by kernel_rfl) (by kernel_rfl) ?_
      simp only [getOps, List.getElem?_cons_zero, List.getElem?_cons_succ]
      repeat (first | (apply wpUp_step rfl rfl; (focus (intro W hU; go_simp; exact ⟨rfl, Up.refl _⟩))) | (apply wpUp_yes rfl rfl; (focus (intro W hU; go_simp; exact ⟨rfl, Up.refl _⟩))); go_simp)
      refine wpUp_nil fun W2 hW2 => ?_
      refine wpNew_nil fun W3 hW3 => ?_
      have hU3 : Up wr W3 := (up_drew.trans hW2).trans hW3
      clear k1 k2 hW2 hW3
      have k1 := lift (cell_up hU3 c_a)
      have k2 := lift (cell_up hU3 c_p)
      have k3 := lift (cell_up hU3 r0)
      have k4 := lift (cell_up hU3 r1)
      have k5 := lift (cell_up hU3 r2)
      have k6 := lift (cell_up hU3 r3)
      go_wp2
      refine region_upL0 [0, 1, 2, 3, 4, 5, 6, 7, 8, 9, 10] [11] 12 [] (by kernel_rfl) (by kernel_rfl) ?_
      simp only [getOps, List.getElem?_cons_zero, List.getElem?_cons_succ]
      repeat (first | (apply wpUp_step rfl rfl; (focus (intro W hU; go_simp; exact ⟨rfl, Up.refl _⟩))); go_simp)
      refine wpUp_nil fun W4 hW4 => ?_
      clear k1 k2 k3 k4 k5 k6
      refine wpNew_step rfl fun W5 hW5 K hK => ?_
      go_simp
      refine ⟨alloc_up _ _ _, hK _ _ ?_⟩
      clear hK K
      refine wpNew_nil fun W6 hW6 => ?_
      have hU5 := (hU3.trans (up_drew.trans hW4)).trans hW5
      have hU6 := (hU5.trans (alloc_up _ _ _)).trans hW6
      obtain ⟨X, hX⟩ : ∃ X, W5.heap.size = X := ⟨_, rfl⟩
      have hXlt : wr.heap.size ≤ X := by rw [← hX]; exact hU5.1.size
      have z0 : W6.cell? ⟨W5.heap.size, 0, none⟩ = some (.int .i64 0) := cell_up hW6 (by simp)
      have z1 : W6.cell? ⟨W5.heap.size, 1, none⟩ = some (.int .i64 0) := cell_up hW6 (by simp)
      have z2 : W6.cell? ⟨W5.heap.size, 2, none⟩ = some (.int .i64 0) := cell_up hW6 (by simp)
      have z3 : W6.cell? ⟨W5.heap.size, 3, none⟩ = some (.int .i64 0) := cell_up hW6 (by simp)
      have y0 : ∀ j, W6.frozen? ⟨W5.heap.size, j, none⟩ = false := fun j => (hW6.2 _).trans ((frozen?_alloc_cells _ _ _ _).trans (frozen_new _ _ (Nat.le_refl _)))
      rw [hX] at z0 z1 z2 z3 y0 ⊢
      have f0 := y0 0
      have f1 := y0 1
      have f2 := y0 2
      have f3 := y0 3
      have c_a6 := cell_up hU6 c_a
      have f_a6 := (hU6.2 _).trans (hc.fr 29 (by omega))
      have hcX : ¬ c = X := fun e => by have := hc.here; omega
      clear hW4 hW5 hW6 hX y0 hU3 hU5 c_a c_p c_e f_e r0 r1 r2 r3
      have q0 := (set4 z0 z1 z2 z3 (.int .i64 kk) (.int .i64 xa) (.int .i64 xb) (.int .i64 xc)).1
      have q1 := (set4 z0 z1 z2 z3 (.int .i64 kk) (.int .i64 xa) (.int .i64 xb) (.int .i64 xc)).2.1
      have q2 := (set4 z0 z1 z2 z3 (.int .i64 kk) (.int .i64 xa) (.int .i64 xb) (.int .i64 xc)).2.2.1
      have q3 := (set4 z0 z1 z2 z3 (.int .i64 kk) (.int .i64 xa) (.int .i64 xb) (.int .i64 xc)).2.2.2
      have hU7 := (((hU6.setCell (p := ⟨X, 0, none⟩) hXlt (.int .i64 kk)).setCell (p := ⟨X, 1, none⟩) hXlt (.int .i64 xa)).setCell (p := ⟨X, 2, none⟩) hXlt (.int .i64 xb)).setCell (p := ⟨X, 3, none⟩) hXlt (.int .i64 xc)
      have HF := Lib.hid (And.intro q0 (And.intro q1 (And.intro q2 (And.intro q3 hU7))))
      clear q0 q1 q2 q3 hU7
      go_upto_region 7 with (fail)
      obtain ⟨q0, q1, q2, q3, hU7⟩ := HF.out
      clear HF z0 z1 z2 z3 f0 f1 f2 f3 hU6 c_a6 f_a6
      generalize ((((W6.setCell ⟨X, 0, none⟩ (.int .i64 kk)).setCell ⟨X, 1, none⟩ (.int .i64 xa)).setCell ⟨X, 2, none⟩ (.int .i64 xb)).setCell ⟨X, 3, none⟩ (.int .i64 xc)) = W7 at *
      have hc7 := hc.up hU7
      have c_a := hc7.a
      rw [HQ.out] at c_a
      have f_a := hc7.fr 29 (by omega)
      have w_a : IntKind.i64.wrap ((q : Int) + 1) = q + 1 := IntWalk.i64_in _ (by have := hE.np; omega)
      go_upto_region 8 with (fail)
      have hch8 : Chg (fun x => x = c ∨ w.heap.size + 2 ≤ x) W1 (W7.setCell ⟨c, 29, none⟩ (.int .i64 (q + 1))) := (hchg.out.up hU7).setCell (Or.inl (Or.inl rfl)) _
      have hmap8 := (hch8.block (w.heap.size + 1) (by omega) (by simp only [not_or]; exact ⟨by omega, by omega⟩)).trans HE.out.2.2.1
      have g0 := (cell_other (W := W7) (p := ⟨c, 29, none⟩) (a := ⟨X, 0, none⟩) (x := .int .i64 (q + 1)) hcX).trans q0
      have g1 := (cell_other (W := W7) (p := ⟨c, 29, none⟩) (a := ⟨X, 1, none⟩) (x := .int .i64 (q + 1)) hcX).trans q1
      have g2 := (cell_other (W := W7) (p := ⟨c, 29, none⟩) (a := ⟨X, 2, none⟩) (x := .int .i64 (q + 1)) hcX).trans q2
      have g3 := (cell_other (W := W7) (p := ⟨c, 29, none⟩) (a := ⟨X, 3, none⟩) (x := .int .i64 (q + 1)) hcX).trans q3
      have hst8 : StIs (w.heap.size + 2) c (.slice (some ⟨ib, io, none⟩) E.np cv) (.slice pl E.nl cl) E { s' with a := q + 1 } (W7.setCell ⟨c, 29, none⟩ (.int .i64 (q + 1))) :=
        ⟨vo, hc7.go _, (hown.up hU7).chg (S := (· = c)) ((Chg.refl (· = c) _).setCell (Or.inl rfl) _) (fun x hx e => (hbl x hx).2 e), hbl⟩
      have hlk8 : LnkSlice (W7.setCell ⟨c, 29, none⟩ (.int .i64 (q + 1))) (.slice pl E.nl cl) E.nl E.l := lnk_chg (HL.out.up HU1.out) hch8 (fun x hx hlt => by simp only [not_or]; exact ⟨hlc x hx, by omega⟩)
      have hins := ins_any (w.heap.size + 2) c (some ⟨ib, io, none⟩) pl cv cl E hE ⟨kk, xa, xb, xc⟩ { s' with a := q + 1 } (4096 - k) (by omega) ⟨hgood.out.r, hgood.out.d0, hgood.out.d1, by show (0 : Int) ≤ q + 1; omega, by show (q : Int) + 1 ≤ E.np; omega, hgood.out.o⟩ HM.out _ hst8 hlk8 (by have := hch8.size; omega)
      have hnext : E.p s'.a.toNat = ⟨kk, xa, xb, xc⟩ := HST.out _ HX.out
      have hsq : { s' with a := s'.a + 1 } = { s' with a := (q : Int) + 1 } := by rw [HQ.out]
      simp only [Int.toNat_natCast] at hins
      have hop := op_at hmap8 kk hkk
      have hent := op_enters kk hkk
      unfold Go.Proofs.Enters at hent
      have H8 := Lib.hid hch8
      have HN := Lib.hid (And.intro hnext hsq)
      have hlt8 := hch8.size
      have HS8 := Lib.hid hst8
      have c_e8 := hch8.cell (by simp only [not_or]; exact ⟨by omega, by omega⟩) HE.out.1
      have f_e8 := (hch8.marks _).trans HE.out.2.1
      have HE8 := Lib.hid (And.intro c_e8 f_e8)
      clear hch8 hmap8 hst8 hlk8 hnext hsq q0 q1 q2 q3 c_a f_a w_a hU7 hc7 c_e8 f_e8
      generalize (W7.setCell ⟨c, 29, none⟩ (.int .i64 (q + 1))) = W8 at *
      rcases hs1 : step1 E ⟨kk, xa, xb, xc⟩ { s' with a := (q : Int) + 1 } with f | s2
      · have HS1 := Lib.hid hs1
        unfold InsPost at hins
        rw [hs1] at hins
        have HI8 := Lib.hid hins
        clear hins hs1
        go_wp2_with fail
        refine HI8.out.mono ?_
        rintro e w9 ⟨fi, rfl, hch9⟩
        have hB9 : ¬ (w.heap.size = c ∨ w.heap.size + 2 ≤ w.heap.size) := by simp only [not_or]; exact ⟨by omega, by omega⟩
        have c_e9 := hch9.cell (a := ⟨w.heap.size, 0, none⟩) hB9 HE8.out.1
        have f_e9 := (hch9.marks _).trans HE8.out.2
        refine leaves_cons (f := 60) (args := #[.pointer (some ⟨w.heap.size, 0, none⟩)]) (by simp) (by simp [go_sem]) ?_
        refine (rec_fault w.heap.size fi f _ _ c_e9 f_e9).mono ?_
        rintro e u' w10 ⟨rfl, rfl, J, R, w11, hu11, hJ, hR, hge, hgj, rfl⟩
        have c_e10 : (w11.setCell ⟨w.heap.size, 0, none⟩ (.iface 177 (.pointer (some ⟨J, 0, none⟩)))).cell? ⟨w.heap.size, 0, none⟩ = some (.iface 177 (.pointer (some ⟨J, 0, none⟩))) := World.cell?_setCell_same _ _ _ (cell_up hu11 c_e9)
        have hlt9 : w.heap.size < w9.heap.size := World.block_lt_of_cell? w9 _ c_e9
        refine ⟨.iface 177 (.pointer (some ⟨J, 0, none⟩)), by simp [results, Tryz.results53, go_sem, c_e10], ?_, ?_⟩
        · exact ((((Chg.of_up HU1.out).trans H8.out (fun _ _ h => h)).trans hch9 (fun _ _ h => h)).up hu11).setCell (Or.inr (Nat.le_refl _)) _
        · have hrr : runF E 4096 s = .error f := by
            rw [hrun.out, show k = (k - 1) + 1 by omega]
            exact runF_err HK.out (by rw [HN.out.1, HN.out.2]; exact HS1.out)
          rw [hrr]
          exact ⟨J, R, fi, rfl, (cell_other (by show w.heap.size ≠ J; omega)).trans hJ, (cell_other (by show w.heap.size ≠ R; omega)).trans hR⟩
      · have HS1 := Lib.hid hs1
        unfold InsPost at hins
        rw [hs1] at hins
        have HI8 := Lib.hid hins
        clear hins hs1
        go_wp2_with fail
        refine HI8.out.mono ?_
        rintro e w9 ⟨rfl, hch9, hst9⟩
        go_wp2
        have hrr : runF E 4096 s = runF E (k - 1) s2 := by
          have h1 := hrun.out
          rw [show k = (k - 1) + 1 by omega] at h1
          rw [h1]
          exact runF_go HK.out (by rw [HN.out.1, HN.out.2]; exact HS1.out)
        have hg2 : GoodS E (4096 - k + 1) s2 := step1_good (s := { s' with a := (q : Int) + 1 }) hE HM.out ⟨hgood.out.r, hgood.out.d0, hgood.out.d1, by show (0 : Int) ≤ q + 1; omega, by show (q : Int) + 1 ≤ E.np; omega, hgood.out.o⟩ HS1.out
        refine ⟨⟨k - 1, s2, by omega, ?_, Lib.hid hrr, Lib.hid ?_, Lib.hid (H8.out.trans hch9 (fun _ _ h => h)), Lib.hid hst9⟩, ?_⟩
        · rw [show ((k - 1 : Nat) : Int) = (k : Int) - 1 by omega]
        · rw [show (4096 : Int) - ((k - 1 : Nat) : Int) = 4096 - k + 1 by omega]; exact hg2
        · simp [intOf]; omega
    · have hend : Hid (runF E 4096 s = .ok s') := by
        refine Lib.hid (hrun.out.trans ?_)
        by_cases h1 : s'.a < E.np
        · obtain rfl : k = 0 := by omega
          rfl
        · exact runF_end h1
      by_cases h0 : k = 0
      · subst h0
        clear hgo
        go_wp2
        go_region
        go_wp2
        have c_e2 : ((wr.setCell ⟨w.heap.size, 0, none⟩ .nilIface).drew).cell? ⟨w.heap.size, 0, none⟩ = some .nilIface := World.cell?_setCell_same _ _ _ c_e
        refine leaves_cons (f := 60) (args := #[.pointer (some ⟨w.heap.size, 0, none⟩)]) (by simp) (by simp [go_sem]) ?_
        refine (rec_none _ _).mono ?_
        rintro e u' w'' ⟨rfl, rfl, rfl⟩
        exact ⟨.nilIface, by simp [results, Tryz.results53, go_sem, c_e2], run_end HU1.out hchg.out hst.out hend.out (Up.refl wr) hlt (Up.refl _).drew⟩
      · have h1 : ¬ s'.a < E.np := by omega
        have hk0 : 0 < k := by omega
        clear hgo
        have k1 := lift c_a
        have k2 := lift c_p
        go_wp2
        refine region_upL0 [0, 1, 2, 3, 4, 5, 6, 7, 8, 9, 10, 11, 12, 13] [] 14 [] (by kernel_rfl) (by kernel_rfl) ?_
        simp only [getOps, List.getElem?_cons_zero, List.getElem?_cons_succ]
        repeat (first | (apply wpUp_step rfl rfl; (focus (intro W hU; go_simp; exact ⟨rfl, Up.refl _⟩))) | (apply wpUp_yes rfl rfl; (focus (intro W hU; go_simp; exact ⟨rfl, Up.refl _⟩))); go_simp)
        refine wpUp_nil fun W2 hW2 => ?_
        refine wpNew_nil fun W3 hW3 => ?_
        have hU3 : Up wr W3 := (up_drew.trans hW2).trans hW3
        clear k1 k2 hW2 hW3
        have c_e3 := cell_up hU3 c_e
        have f_e3 := (hU3.2 _).trans f_e
        go_wp2
        have c_e2 : (W3.setCell ⟨w.heap.size, 0, none⟩ .nilIface).cell? ⟨w.heap.size, 0, none⟩ = some .nilIface := World.cell?_setCell_same _ _ _ c_e3
        refine leaves_cons (f := 60) (args := #[.pointer (some ⟨w.heap.size, 0, none⟩)]) (by simp) (by simp [go_sem]) ?_
        refine (rec_none _ _).mono ?_
        rintro e u' w'' ⟨rfl, rfl, rfl⟩
        exact ⟨.nilIface, by simp [results, Tryz.results53, go_sem, c_e2], run_end HU1.out hchg.out hst.out hend.out hU3 hlt (Up.refl _)⟩
end Go.Proofs.YtalmjdlcogdpmaaGreatDoor

namespace Go.Proofs.YtalmjdlcogdpmaaGreatDoor
open Go.RowKit Go.Extern Go.Extern.Stop Go.Stop

set_option maxRecDepth 100000 in
set_option maxHeartbeats 4000000 in
theorem as_join (T V J R : Nat) (x y : Int) (u v : Value) (w : World) (hV : w.cell? ⟨V, 0, none⟩ = some (.pointer (some ⟨T, 0, none⟩))) (t0 : w.cell? ⟨T, 0, none⟩ = some u) (t1 : w.cell? ⟨T, 1, none⟩ = some v) (f0 : w.frozen? ⟨T, 0, none⟩ = false) (f1 : w.frozen? ⟨T, 1, none⟩ = false)
    (hJ : w.cell? ⟨J, 0, none⟩ = some (.slice (some ⟨R, 0, none⟩) 1 1)) (hR : w.cell? ⟨R, 0, none⟩ = some (.iface 140 (.agg #[.int .i64 x, .int .i64 y]))) :
    Calls Tryz.prog 66 #[.iface 177 (.pointer (some ⟨J, 0, none⟩)), .iface 143 (.pointer (some ⟨T, 0, none⟩)), .agg #[.pointer (some ⟨1, 143, none⟩), .pointer (some ⟨V, 0, none⟩), .int .u64 150], .iface 151 (.agg #[.pointer (some ⟨1, 140, none⟩)])]
      w fun e w' => e = .returned (.bool true) ∧ Chg (· = T) w w' ∧ w'.cell? ⟨T, 0, none⟩ = some (.int .i64 x) ∧ w'.cell? ⟨T, 1, none⟩ = some (.int .i64 y) := by
  have h10 := @run_callFunc_extern Tryz.prog 49 _ ReflectliteType.typeOf Tryz.func49 (by kernel_rfl) (by kernel_rfl) (by kernel_rfl) (by kernel_rfl)
  have h35 := @run_callFunc_extern Tryz.prog 166 _ (ReflectliteType.relation "AssignableTo" ReflectliteType.assignableTo) Tryz.func166 (by kernel_rfl) (by kernel_rfl) (by kernel_rfl) (by kernel_rfl)
  have tJ := asTypeOfJ
  have mA := asMethodAssignableTo
  have aJ := asAssignableJ
  have nA := fun v xT w => asNoAs v _ xT w rfl
  have nU := asNoUnwrap
  have hU := asUnwraps
  have mU := asMethodUnwraps
  have hne := fun W => run_eql_iface_nil' (P := Tryz.prog) 140 (.agg #[.int .i64 x, .int .i64 y]) W Tryz.underlying96
  have hB : ∀ cs t, Up w (w.alloc (.cells cs t)) := fun cs t => alloc_up _ _ _
  have jJ := fun cs t => cell_up (hB cs t) hJ
  have jR := fun cs t => cell_up (hB cs t) hR
  have HV := Lib.hid hV
  have H0 := Lib.hid t0
  have H1 := Lib.hid t1
  have F0 := Lib.hid f0
  have F1 := Lib.hid f1
  have HB := Lib.hid hB
  clear hV t0 t1 f0 f1 hB
  go_enter Tryz.func66, Tryz.ntmps66
  go_wp2
  refine wp_loop_rounds 1 ?_
  rw [rounds_succ]
  go_wp2
  refine wp_loop_rounds 1 ?_
  rw [rounds_succ]
  go_wp2_with fail
  refine (as_fault T V x y u v _ (cell_up (HB.out _ _) HV.out) (cell_up (HB.out _ _) H0.out) (cell_up (HB.out _ _) H1.out) (((HB.out _ _).2 _).trans F0.out) (((HB.out _ _).2 _).trans F1.out)).mono ?_
  rintro e w2 ⟨rfl, hc⟩
  go_wp2
  go_ret
  exact ⟨rfl, (Chg.of_up (HB.out _ _)).trans hc.1 (fun _ _ h => h), hc.2⟩

set_option maxRecDepth 100000 in
set_option maxHeartbeats 4000000 in
theorem as_hit (T J R : Nat) (x y : Int) (u v : Value) (w : World) (hg : w.cell? ⟨0, 0, none⟩ = some (.iface 151 (.agg #[.pointer (some ⟨1, 96, none⟩)]))) (t0 : w.cell? ⟨T, 0, none⟩ = some u) (t1 : w.cell? ⟨T, 1, none⟩ = some v) (f0 : w.frozen? ⟨T, 0, none⟩ = false) (f1 : w.frozen? ⟨T, 1, none⟩ = false)
    (hJ : w.cell? ⟨J, 0, none⟩ = some (.slice (some ⟨R, 0, none⟩) 1 1)) (hR : w.cell? ⟨R, 0, none⟩ = some (.iface 140 (.agg #[.int .i64 x, .int .i64 y]))) :
    Calls Tryz.prog 54 #[.iface 177 (.pointer (some ⟨J, 0, none⟩)), .iface 143 (.pointer (some ⟨T, 0, none⟩))]
      w fun e w' => e = .returned (.bool true) ∧ Chg (· = T) w w' ∧ w'.cell? ⟨T, 0, none⟩ = some (.int .i64 x) ∧ w'.cell? ⟨T, 1, none⟩ = some (.int .i64 y) := by
  have h6 := @run_callFunc_extern Tryz.prog 63 _ (fun args => ReflectliteValue.unpack (args.getD 0 (.tuple #[]))) Tryz.func63 (by kernel_rfl) (by kernel_rfl) (by kernel_rfl) (by kernel_rfl)
  have h7 := @run_callFunc_extern Tryz.prog 64 _ (ReflectliteValue.methodAny (ReflectliteValue.valueError "reflectlite.Value.Type" 0) (fun t _ _ _ => ReflectliteType.toType t)) Tryz.func64 (by kernel_rfl) (by kernel_rfl) (by kernel_rfl) (by kernel_rfl)
  have h8 := @run_callFunc_extern Tryz.prog 65 _ (ReflectliteValue.method (ReflectliteValue.valueError "reflectlite.Value.IsNil" 0) ReflectliteValue.isNil) Tryz.func65 (by kernel_rfl) (by kernel_rfl) (by kernel_rfl) (by kernel_rfl)
  have h27 := @run_callFunc_extern Tryz.prog 112 _ (ReflectliteType.abiMethod fun t => do pure (.int .u8 (← Rtype.kind t))) Tryz.func112 (by kernel_rfl) (by kernel_rfl) (by kernel_rfl) (by kernel_rfl)
  have h37 := @run_callFunc_extern Tryz.prog 168 _ (ReflectliteType.method ReflectliteType.elem) Tryz.func168 (by kernel_rfl) (by kernel_rfl) (by kernel_rfl) (by kernel_rfl)
  have h38 := @run_callFunc_extern Tryz.prog 169 _ (ReflectliteType.relation "Implements" ReflectliteType.implements_) Tryz.func169 (by kernel_rfl) (by kernel_rfl) (by kernel_rfl) (by kernel_rfl)
  have f6 := asValueOfP
  have f7 := asTypeP
  have mK := asMethodKind
  have mE := asMethodElem
  have mI := asMethodImplements
  have k27 := asKindP
  have k25 := asKindF
  have e27 := asElemP
  have i25 := asImplementsF
  obtain ⟨Wa, hWa⟩ : ∃ Wa, (w.alloc (.cells #[.pointer (some ⟨T, 0, none⟩)] 143)).alloc (.cells #[.pointer (some ⟨1, 143, none⟩), .pointer (some ⟨w.heap.size, 0, none⟩), .int .u64 150] 168) = Wa := ⟨_, rfl⟩
  have hUa : Up w Wa := by rw [← hWa]; exact (alloc_up _ _ _).trans (alloc_up _ _ _)
  have hVa : Wa.cell? ⟨w.heap.size, 0, none⟩ = some (.pointer (some ⟨T, 0, none⟩)) := by rw [← hWa]; simp [go_sem]
  have n8 := asIsNilP ⟨w.heap.size, 0, none⟩ ⟨T, 0, none⟩ Wa hVa
  have hg2 := cell_up hUa hg
  rw [← hWa] at n8 hg2
  have HA := Lib.hid hWa
  have HUa := Lib.hid hUa
  have HVa := Lib.hid hVa
  have H0 := Lib.hid t0
  have H1 := Lib.hid t1
  have F0 := Lib.hid f0
  have F1 := Lib.hid f1
  have HJ := Lib.hid hJ
  have HR := Lib.hid hR
  clear hWa hUa hVa t0 t1 f0 f1 hJ hR hg
  go_enter Tryz.func54, Tryz.ntmps54
  go_wp2_with fail
  rw [HA.out]
  have hUa := HUa.out
  refine (as_join T w.heap.size J R x y u v Wa HVa.out (cell_up hUa H0.out) (cell_up hUa H1.out) ((hUa.2 _).trans F0.out) ((hUa.2 _).trans F1.out) (cell_up hUa HJ.out) (cell_up hUa HR.out)).mono ?_
  rintro e w2 ⟨rfl, hc⟩
  go_wp2
  go_ret
  exact ⟨rfl, (Chg.of_up HUa.out).trans hc.1 (fun _ _ h => h), hc.2⟩
end Go.Proofs.YtalmjdlcogdpmaaGreatDoor

namespace Go.Proofs.YtalmjdlcogdpmaaGreatDoor
open Go.RowKit
/-- The cells of block b from offset o on. -/
structure BlkAt (W : World) (b o : Nat) (cs : List Value) : Prop where
  get : ∀ i, i < cs.length → W.cell? ⟨b, o + i, none⟩ = some (cs.getD i undef)
/-- The cells of block b. -/
structure Blk (W : World) (b : Nat) (cs : List Value) : Prop where
  get : ∀ i, i < cs.length → W.cell? ⟨b, i, none⟩ = some (cs.getD i undef)
section
variable {w w' : World} {b : Nat} {cs : List Value}
theorem Blk.up (h : Blk w b cs) (hu : Up w w') : Blk w' b cs := ⟨fun i hi => cell_up hu (h.get i hi)⟩
theorem Blk.chg {S : Nat → Prop} (h : Blk w b cs) (hc : Chg S w w') (hn : ¬ S b) : Blk w' b cs := ⟨fun i hi => hc.cell hn (h.get i hi)⟩
theorem Blk.lift (h : Blk w b cs) : ∀ W, Up w.drew W → ∀ i, i < cs.length → W.cell? ⟨b, i, none⟩ = some (cs.getD i undef) := fun _ hW => (h.up (up_drew.trans hW)).get
theorem Blk.alloc (w : World) (cs : List Value) (t : TypeId) : Blk (w.alloc (.cells cs.toArray t)) w.heap.size cs :=
  ⟨fun i hi => by
    have : (w.alloc (.cells cs.toArray t)).heap[w.heap.size]? = some (.cells cs.toArray t (0, 0)) := heap_alloc_new w _
    rw [cell_of_row _ _ _ _ _ _ this]
    simp [hi]⟩
theorem Blk.at (h : Blk w b cs) {i : Nat} {v : Value} (hi : cs[i]? = some v) : w.cell? ⟨b, i, none⟩ = some v := by
  obtain ⟨hlt, hv⟩ := List.getElem?_eq_some_iff.1 hi
  rw [h.get i hlt]
  simp [hlt, hv]
theorem Blk.set (h : Blk w b cs) (i : Nat) (v : Value) (hi : i < cs.length) : Blk (w.setCell ⟨b, i, none⟩ v) b (cs.set i v) :=
  ⟨fun j hj => by
    rw [List.length_set] at hj
    by_cases e : i = j
    · subst e
      rw [World.cell?_setCell_same _ _ _ (h.get i hi)]
      simp [hi]
    · rw [cell_off e, h.get j hj]
      simp [e]⟩
theorem Blk.other (h : Blk w b cs) {p : Addr} {v : Value} (hp : p.block ≠ b) : Blk (w.setCell p v) b cs := ⟨fun i hi => (cell_other hp).trans (h.get i hi)⟩
theorem Blk.lt (h : Blk w b cs) (h0 : 0 < cs.length) : b < w.heap.size := World.block_lt_of_cell? w _ (h.get 0 h0)
/-- A list with vs written over it from o on. -/
def setL : List Value → Nat → List Value → List Value
  | cs, _, [] => cs
  | cs, o, v :: r => setL (cs.set o v) (o + 1) r
theorem Blk.sets : ∀ (vs : List Value) {w : World} {cs : List Value} (o : Nat), Blk w b cs → o + vs.length ≤ cs.length → Blk (w.setCells b o vs) b (setL cs o vs)
  | [], _, _, _, h, _ => h
  | v :: r, w, cs, o, h, hl => by
    simp only [List.length_cons] at hl
    exact Blk.sets r (o + 1) (h.set o v (by omega)) (by rw [List.length_set]; omega)
theorem Chg.setCells {S : Nat → Prop} {a : World} {b : Nat} (hb : S b ∨ a.heap.size ≤ b) : ∀ (vs : List Value) {w : World} (o : Nat), Chg S a w → Chg S a (w.setCells b o vs)
  | [], _, _, h => h
  | v :: r, w, o, h => Chg.setCells hb r (o + 1) (h.setCell (p := ⟨b, o, none⟩) hb v)
theorem Blk.others {w : World} {b c : Nat} {cs vs : List Value} {o : Nat} (h : Blk w b cs) (hn : c ≠ b) : Blk (w.setCells c o vs) b cs := h.chg (S := (· = c)) (Chg.setCells (S := (· = c)) (a := w) (b := c) (Or.inl rfl) vs o (Chg.refl (· = c) w)) (fun e => hn e.symm)
/-- An unfrozen block. -/
theorem new_free (w : World) (o : Obj) {w' : World} (hu : Up w w') (j : Nat) (b : Nat) (hb : w.heap.size ≤ b) : w'.frozen? ⟨b, j, none⟩ = false := (hu.2 _).trans (frozen_new _ _ hb)
end
end Go.Proofs.YtalmjdlcogdpmaaGreatDoor
