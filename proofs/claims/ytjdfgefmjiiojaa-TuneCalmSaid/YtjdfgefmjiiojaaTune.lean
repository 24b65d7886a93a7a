/- Contracts of the functions of package tune and of its reference: what each call returns, in plain integers; each makes at most new memory. -/
import Derived.Test.YtjdfgefmjiiojaaRows
import Derived.Test.YtjdfgefmjiiojaaUp
import Derived.WalkKit
import Derived.WalkSpells
import Derived.WalkLawsBesides
import Derived.Deep.RegionHeld3
namespace Go.Proofs.Ytjdfgefmjiiojaa
open Go.RowKit

def mxv (x y : Int) : Int := if y > x then y else x
def mnv (x y : Int) : Int := if y < x then y else x
def clv (lo hi n : Int) : Int := mnv (mxv n lo) hi
theorem run_mx (ts : Array TypeId) (t : TypeId) (k k' : IntKind) (x y : Int) (w : World) : (Builtin.max_ ts t #[.int k x, .int k' y]).run Try.prog w = .ok (.int k (mxv x y)) w := run_max_int2 ..
theorem run_mn (ts : Array TypeId) (t : TypeId) (k k' : IntKind) (x y : Int) (w : World) : (Builtin.min_ ts t #[.int k x, .int k' y]).run Try.prog w = .ok (.int k (mnv x y)) w := run_min_int2 ..

theorem clv_eq (lo hi n : Int) : clv lo hi n = if hi < (if lo > n then lo else n) then hi else (if lo > n then lo else n) := rfl
theorem clv_in {lo hi n : Int} (h : lo ≤ hi) : lo ≤ clv lo hi n ∧ clv lo hi n ≤ hi := by unfold clv mnv mxv; split <;> split <;> omega

set_option maxHeartbeats 400000 in
theorem clamp_one (lo hi n : Int) (w : World) :
    Calls Try.prog 35 #[.agg #[.int .i64 lo, .int .i64 hi], .int .i64 n] w fun e w' => e = .returned (.int .i64 (clv lo hi n)) ∧ Up w w' := by
  have hmx := run_mx
  have hmn := run_mn
  go_enter Try.func35, Try.ntmps35
  go_wp2
  go_ret
  exact ⟨rfl, (Up.refl _).alloc _ _⟩

set_option maxHeartbeats 400000 in
theorem bounds_any (w : World) :
    Calls Try.prog 34 #[] w fun e w' => e = .returned (.agg #[.int .i64 0, .int .i64 2, .int .i64 1, .int .i64 64, .int .i64 0, .int .i64 1, .int .i64 1, .int .i64 1048576, .int .i64 0, .int .i64 2]) ∧ Up w w' := by
  go_enter Try.func34, Try.ntmps34
  go_wp2
  refine bodyPost_ret (v := .agg #[.int .i64 0, .int .i64 2, .int .i64 1, .int .i64 64, .int .i64 0, .int .i64 1, .int .i64 1, .int .i64 1048576, .int .i64 0, .int .i64 2]) (by simp [results, Try.results34, go_sem]) rfl ⟨rfl, ?_⟩
  exact (Up.refl _).alloc _ _

def setv (m e c r q : Int) : Value := .agg #[.int .i64 m, .int .i64 e, .int .i64 c, .int .i64 r, .int .i64 q]
/-- What is clamped. -/
def clampv (m e c r q : Int) : Value := .agg #[.int .i64 (clv 0 2 m), .int .i64 (clv 1 64 e), .int .i64 (clv 0 1 c), .int .i64 (clv 1 1048576 r), .int .i64 (clv 0 2 q)]

set_option maxHeartbeats 400000 in
theorem first_any (w : World) :
    Calls Try.prog 27 #[] w fun e w' => e = .returned (.agg #[.int .i64 2, .int .i64 4, .int .i64 0, .int .i64 1000, .int .i64 0]) ∧ Up w w' := by
  go_enter Try.func27, Try.ntmps27
  go_wp2
  refine bodyPost_ret (v := .agg #[.int .i64 2, .int .i64 4, .int .i64 0, .int .i64 1000, .int .i64 0]) (by simp [results, Try.results27, go_sem]) rfl ⟨rfl, ?_⟩
  exact (Up.refl _).alloc _ _

set_option maxHeartbeats 400000 in
theorem reffirst_any (w : World) :
    Calls Try.prog 28 #[] w fun e w' => e = .returned (.agg #[.int .i64 2, .int .i64 4, .int .i64 0, .int .i64 1000, .int .i64 0]) ∧ Up w w' := by
  go_enter Try.func28, Try.ntmps28
  go_wp2
  refine bodyPost_ret (v := .agg #[.int .i64 2, .int .i64 4, .int .i64 0, .int .i64 1000, .int .i64 0]) (by simp [results, Try.results28, go_sem]) rfl ⟨rfl, ?_⟩
  exact (Up.refl _).alloc _ _

set_option maxHeartbeats 400000 in
theorem refclamp_any (m e c r q : Int) (w : World) :
    Calls Try.prog 26 #[.agg #[.int .i64 m, .int .i64 e, .int .i64 c, .int .i64 r, .int .i64 q]] w fun x w' => x = .returned (clampv m e c r q) ∧ Up w w' := by
  have hmx := run_mx
  have hmn := run_mn
  go_enter Try.func26, Try.ntmps26
  go_wp2
  refine bodyPost_ret (v := clampv m e c r q) (by simp [results, Try.results26, go_sem, clampv, clv]) rfl ⟨rfl, ?_⟩
  exact ((Up.refl _).alloc _ _).alloc _ _

/-- The cell at a, whatever it holds. -/
def cellOf (w : World) (a : Addr) : Value := (w.cell? a).getD undef
theorem cellOf_of {w : World} {a : Addr} {v : Value} (h : w.cell? a = some v) : w.cell? a = some (cellOf w a) := by unfold cellOf; rw [h]; rfl
/-- What is held of memory while Clamp computes its five fields. -/
def Held (w : World) (C : Nat) (m e c r q : Int) (w' : World) : Prop := Up w w' ∧ w'.cell? ⟨w.heap.size, 0, none⟩ = some (.int .i64 m) ∧ w'.cell? ⟨w.heap.size, 1, none⟩ = some (.int .i64 e) ∧ w'.cell? ⟨w.heap.size, 2, none⟩ = some (.int .i64 c) ∧ w'.cell? ⟨w.heap.size, 3, none⟩ = some (.int .i64 r) ∧ w'.cell? ⟨w.heap.size, 4, none⟩ = some (.int .i64 q) ∧ w'.cell? ⟨C, 0, none⟩ = some (.int .i64 0) ∧ w'.cell? ⟨C, 1, none⟩ = some (.int .i64 2) ∧ w'.cell? ⟨C, 2, none⟩ = some (.int .i64 1) ∧ w'.cell? ⟨C, 3, none⟩ = some (.int .i64 64) ∧ w'.cell? ⟨C, 4, none⟩ = some (.int .i64 0) ∧ w'.cell? ⟨C, 5, none⟩ = some (.int .i64 1) ∧ w'.cell? ⟨C, 6, none⟩ = some (.int .i64 1) ∧ w'.cell? ⟨C, 7, none⟩ = some (.int .i64 1048576) ∧ w'.cell? ⟨C, 8, none⟩ = some (.int .i64 0) ∧ w'.cell? ⟨C, 9, none⟩ = some (.int .i64 2) ∧ w'.cell? ⟨w.heap.size + 1, 0, none⟩ = some (cellOf w' ⟨w.heap.size + 1, 0, none⟩) ∧ w'.cell? ⟨w.heap.size + 1, 1, none⟩ = some (cellOf w' ⟨w.heap.size + 1, 1, none⟩) ∧ w'.cell? ⟨w.heap.size + 1, 2, none⟩ = some (cellOf w' ⟨w.heap.size + 1, 2, none⟩) ∧ w'.cell? ⟨w.heap.size + 1, 3, none⟩ = some (cellOf w' ⟨w.heap.size + 1, 3, none⟩) ∧ w'.cell? ⟨w.heap.size + 1, 4, none⟩ = some (cellOf w' ⟨w.heap.size + 1, 4, none⟩) ∧ w'.frozen? ⟨w.heap.size + 1, 0, none⟩ = false ∧ w'.frozen? ⟨w.heap.size + 1, 1, none⟩ = false ∧ w'.frozen? ⟨w.heap.size + 1, 2, none⟩ = false ∧ w'.frozen? ⟨w.heap.size + 1, 3, none⟩ = false ∧ w'.frozen? ⟨w.heap.size + 1, 4, none⟩ = false

theorem cell_up {W W' : World} (hu : Up W W') {a : Addr} {v : Value} (h : W.cell? a = some v) : W'.cell? a = some v :=
  (hu.1.cell (World.block_lt_of_cell? W a h)).trans h
theorem cell_other {W : World} {p a : Addr} {x : Value} (h : p.block ≠ a.block) : (W.setCell p x).cell? a = W.cell? a :=
  World.cell?_setCell_other _ _ _ _ fun e => h (by rw [e])
theorem cell_up' {W W' : World} (hu : Up W W') {a : Addr} {v : Value} (h : W.cell? a = some v) : W'.cell? a = some (cellOf W' a) := cellOf_of (cell_up hu h)
theorem cell_set' {W : World} {a p : Addr} {v x : Value} (h : W.cell? a = some v) : (W.setCell p x).cell? a = some (cellOf (W.setCell p x) a) := by
  obtain ⟨v', h'⟩ := cell?_setCell_some (p := p) (x := x) h
  exact cellOf_of h'
theorem set_get {W : World} {p : Addr} {v x : Value} (h : (W.setCell p v).cell? p = some x) : (W.setCell p v).cell? p = some v := by
  cases hw : W.cell? p with
  | some y => exact World.cell?_setCell_same _ _ _ hw
  | none =>
    exfalso
    have e : (W.setCell p v).cell? p = none := by
      unfold World.cell? at hw ⊢
      simp only [World.setCell, Array.getElem?_modify, if_true]
      cases ho : W.heap[p.block]? with
      | none => simp
      | some o =>
        rw [ho] at hw
        cases o
        case cells c t fr =>
          simp only [Option.map_some] at hw ⊢
          split
          · rfl
          · rename_i hs
            rw [if_neg hs] at hw
            simp at hw ⊢
            omega
        all_goals simp
    rw [e] at h
    cases h
theorem cell_off {W : World} {b i j : Nat} {x : Value} (h : i ≠ j) : (W.setCell ⟨b, i, none⟩ x).cell? ⟨b, j, none⟩ = W.cell? ⟨b, j, none⟩ :=
  World.cell?_setCell_other _ _ _ _ fun e => h (by injection e)
/-- Five fields, stored one behind the other. -/
theorem five_get {W : World} {b : Nat} {v0 v1 v2 v3 v4 x0 x1 x2 x3 x4 : Value} {W' : World} (e : W' = ((((W.setCell ⟨b, 0, none⟩ v0).setCell ⟨b, 1, none⟩ v1).setCell ⟨b, 2, none⟩ v2).setCell ⟨b, 3, none⟩ v3).setCell ⟨b, 4, none⟩ v4)
    (h0 : W'.cell? ⟨b, 0, none⟩ = some x0) (h1 : W'.cell? ⟨b, 1, none⟩ = some x1) (h2 : W'.cell? ⟨b, 2, none⟩ = some x2) (h3 : W'.cell? ⟨b, 3, none⟩ = some x3) (h4 : W'.cell? ⟨b, 4, none⟩ = some x4) :
    W'.cell? ⟨b, 0, none⟩ = some v0 ∧ W'.cell? ⟨b, 1, none⟩ = some v1 ∧ W'.cell? ⟨b, 2, none⟩ = some v2 ∧ W'.cell? ⟨b, 3, none⟩ = some v3 ∧ W'.cell? ⟨b, 4, none⟩ = some v4 := by
  subst e
  refine ⟨?_, ?_, ?_, ?_, ?_⟩
  · rw [cell_off (by decide), cell_off (by decide), cell_off (by decide), cell_off (by decide)] at h0 ⊢; exact set_get h0
  · rw [cell_off (by decide), cell_off (by decide), cell_off (by decide)] at h1 ⊢; exact set_get h1
  · rw [cell_off (by decide), cell_off (by decide)] at h2 ⊢; exact set_get h2
  · rw [cell_off (by decide)] at h3 ⊢; exact set_get h3
  · exact set_get h4
theorem held_up {w : World} {C : Nat} {m e c r q : Int} {W W' : World} (h : Held w C m e c r q W) (hu : Up W W') : Held w C m e c r q W' := by
  obtain ⟨h0, h1, h2, h3, h4, h5, h6, h7, h8, h9, h10, h11, h12, h13, h14, h15, h16, h17, h18, h19, h20, h21, h22, h23, h24, h25⟩ := h
  exact ⟨h0.trans hu, cell_up hu h1, cell_up hu h2, cell_up hu h3, cell_up hu h4, cell_up hu h5, cell_up hu h6, cell_up hu h7, cell_up hu h8, cell_up hu h9, cell_up hu h10, cell_up hu h11, cell_up hu h12, cell_up hu h13, cell_up hu h14, cell_up hu h15, cell_up' hu h16, cell_up' hu h17, cell_up' hu h18, cell_up' hu h19, cell_up' hu h20, (hu.2 _).trans h21, (hu.2 _).trans h22, (hu.2 _).trans h23, (hu.2 _).trans h24, (hu.2 _).trans h25⟩
theorem held_set {w : World} {C : Nat} {m e c r q : Int} {W : World} (hC : w.heap.size + 1 < C) (i : Nat) (x : Value) (h : Held w C m e c r q W) : Held w C m e c r q (W.setCell ⟨w.heap.size + 1, i, none⟩ x) := by
  obtain ⟨h0, h1, h2, h3, h4, h5, h6, h7, h8, h9, h10, h11, h12, h13, h14, h15, h16, h17, h18, h19, h20, h21, h22, h23, h24, h25⟩ := h
  exact ⟨h0.setCell (Nat.le_succ _) _, (cell_other (by simp)).trans h1, (cell_other (by simp)).trans h2, (cell_other (by simp)).trans h3, (cell_other (by simp)).trans h4, (cell_other (by simp)).trans h5, (cell_other (by simp; omega)).trans h6, (cell_other (by simp; omega)).trans h7, (cell_other (by simp; omega)).trans h8, (cell_other (by simp; omega)).trans h9, (cell_other (by simp; omega)).trans h10, (cell_other (by simp; omega)).trans h11, (cell_other (by simp; omega)).trans h12, (cell_other (by simp; omega)).trans h13, (cell_other (by simp; omega)).trans h14, (cell_other (by simp; omega)).trans h15, cell_set' h16, cell_set' h17, cell_set' h18, cell_set' h19, cell_set' h20, (World.frozen?_setCell _ _ _ _).trans h21, (World.frozen?_setCell _ _ _ _).trans h22, (World.frozen?_setCell _ _ _ _).trans h23, (World.frozen?_setCell _ _ _ _).trans h24, (World.frozen?_setCell _ _ _ _).trans h25⟩
theorem held_start {w w1 : World} {m e c r q : Int} (h1 : Up ((w.alloc (.cells #[.int .i64 m, .int .i64 e, .int .i64 c, .int .i64 r, .int .i64 q] 35)).alloc (.cells #[.int .i64 0, .int .i64 0, .int .i64 0, .int .i64 0, .int .i64 0] 35)) w1) : Held w w1.heap.size m e c r q (w1.alloc (.cells #[.int .i64 0, .int .i64 2, .int .i64 1, .int .i64 64, .int .i64 0, .int .i64 1, .int .i64 1, .int .i64 1048576, .int .i64 0, .int .i64 2] 58)).drew := by
  have hz : w.heap.size + 1 < w1.heap.size := by have := h1.1.size; simp at this; omega
  have hc : ∀ b o, b < w.heap.size + 2 → (w1.alloc (.cells #[.int .i64 0, .int .i64 2, .int .i64 1, .int .i64 64, .int .i64 0, .int .i64 1, .int .i64 1, .int .i64 1048576, .int .i64 0, .int .i64 2] 58)).drew.cell? ⟨b, o, none⟩ = ((w.alloc (.cells #[.int .i64 m, .int .i64 e, .int .i64 c, .int .i64 r, .int .i64 q] 35)).alloc (.cells #[.int .i64 0, .int .i64 0, .int .i64 0, .int .i64 0, .int .i64 0] 35)).cell? ⟨b, o, none⟩ := by
    intro b o hb
    have e1 : (w1.alloc (.cells #[.int .i64 0, .int .i64 2, .int .i64 1, .int .i64 64, .int .i64 0, .int .i64 1, .int .i64 1, .int .i64 1048576, .int .i64 0, .int .i64 2] 58)).drew.cell? ⟨b, o, none⟩ = w1.cell? ⟨b, o, none⟩ := World.cell?_alloc_old _ _ _ (by show b ≠ _; omega)
    rw [e1]; exact h1.1.cell (p := ⟨b, o, none⟩) (by simp; omega)
  have hn : ∀ o, (w1.alloc (.cells #[.int .i64 0, .int .i64 2, .int .i64 1, .int .i64 64, .int .i64 0, .int .i64 1, .int .i64 1, .int .i64 1048576, .int .i64 0, .int .i64 2] 58)).drew.cell? ⟨w1.heap.size, o, none⟩ = (#[.int .i64 0, .int .i64 2, .int .i64 1, .int .i64 64, .int .i64 0, .int .i64 1, .int .i64 1, .int .i64 1048576, .int .i64 0, .int .i64 2] : Array Value)[o]? := fun o => World.cell?_alloc_new _ _ _ _
  have h0 : Up w (w1.alloc (.cells #[.int .i64 0, .int .i64 2, .int .i64 1, .int .i64 64, .int .i64 0, .int .i64 1, .int .i64 1, .int .i64 1048576, .int .i64 0, .int .i64 2] 58)).drew := (((((Up.refl w).alloc _ _).alloc _ _).trans h1).alloc _ _).drew
  have hf : ∀ o, (w1.alloc (.cells #[.int .i64 0, .int .i64 2, .int .i64 1, .int .i64 64, .int .i64 0, .int .i64 1, .int .i64 1, .int .i64 1048576, .int .i64 0, .int .i64 2] 58)).drew.frozen? ⟨w.heap.size + 1, o, none⟩ = false := fun o => (h0.2 _).trans (frozen_new _ _ (by simp))
  refine ⟨h0, ?_⟩
  refine ⟨(hc _ _ (by omega)).trans (by simp), (hc _ _ (by omega)).trans (by simp), (hc _ _ (by omega)).trans (by simp), (hc _ _ (by omega)).trans (by simp), (hc _ _ (by omega)).trans (by simp), hn _, hn _, hn _, hn _, hn _, hn _, hn _, hn _, hn _, hn _, cellOf_of ((hc _ _ (by omega)).trans (by simp; rfl)), cellOf_of ((hc _ _ (by omega)).trans (by simp; rfl)), cellOf_of ((hc _ _ (by omega)).trans (by simp; rfl)), cellOf_of ((hc _ _ (by omega)).trans (by simp; rfl)), cellOf_of ((hc _ _ (by omega)).trans (by simp; rfl)), hf _, hf _, hf _, hf _, hf _⟩

set_option maxHeartbeats 1000000 in
theorem clamp_any (m e c r q : Int) (w : World) :
    Calls Try.prog 25 #[.agg #[.int .i64 m, .int .i64 e, .int .i64 c, .int .i64 r, .int .i64 q]] w fun x w' => x = .returned (clampv m e c r q) ∧ Up w w' := by
  go_enter Try.func25, Try.ntmps25
  go_wp2_with fail
  refine (bounds_any _).mono ?_
  rintro e w1 ⟨rfl, h1⟩
  have hz : w.heap.size + 1 < w1.heap.size := by have := h1.1.size; simp at this; omega
  have h2 := held_start h1
  go_wp2_with fail
  go_region_held3 (fun w' => Up w w' ∧ w'.cell? ⟨w.heap.size, 0, none⟩ = some (.int .i64 m) ∧ w'.cell? ⟨w.heap.size, 1, none⟩ = some (.int .i64 e) ∧ w'.cell? ⟨w.heap.size, 2, none⟩ = some (.int .i64 c) ∧ w'.cell? ⟨w.heap.size, 3, none⟩ = some (.int .i64 r) ∧ w'.cell? ⟨w.heap.size, 4, none⟩ = some (.int .i64 q) ∧ w'.cell? ⟨w1.heap.size, 0, none⟩ = some (.int .i64 0) ∧ w'.cell? ⟨w1.heap.size, 1, none⟩ = some (.int .i64 2) ∧ w'.cell? ⟨w1.heap.size, 2, none⟩ = some (.int .i64 1) ∧ w'.cell? ⟨w1.heap.size, 3, none⟩ = some (.int .i64 64) ∧ w'.cell? ⟨w1.heap.size, 4, none⟩ = some (.int .i64 0) ∧ w'.cell? ⟨w1.heap.size, 5, none⟩ = some (.int .i64 1) ∧ w'.cell? ⟨w1.heap.size, 6, none⟩ = some (.int .i64 1) ∧ w'.cell? ⟨w1.heap.size, 7, none⟩ = some (.int .i64 1048576) ∧ w'.cell? ⟨w1.heap.size, 8, none⟩ = some (.int .i64 0) ∧ w'.cell? ⟨w1.heap.size, 9, none⟩ = some (.int .i64 2) ∧ w'.cell? ⟨w.heap.size + 1, 0, none⟩ = some (cellOf w' ⟨w.heap.size + 1, 0, none⟩) ∧ w'.cell? ⟨w.heap.size + 1, 1, none⟩ = some (cellOf w' ⟨w.heap.size + 1, 1, none⟩) ∧ w'.cell? ⟨w.heap.size + 1, 2, none⟩ = some (cellOf w' ⟨w.heap.size + 1, 2, none⟩) ∧ w'.cell? ⟨w.heap.size + 1, 3, none⟩ = some (cellOf w' ⟨w.heap.size + 1, 3, none⟩) ∧ w'.cell? ⟨w.heap.size + 1, 4, none⟩ = some (cellOf w' ⟨w.heap.size + 1, 4, none⟩) ∧ w'.frozen? ⟨w.heap.size + 1, 0, none⟩ = false ∧ w'.frozen? ⟨w.heap.size + 1, 1, none⟩ = false ∧ w'.frozen? ⟨w.heap.size + 1, 2, none⟩ = false ∧ w'.frozen? ⟨w.heap.size + 1, 3, none⟩ = false ∧ w'.frozen? ⟨w.heap.size + 1, 4, none⟩ = false)
    (first | exact h2 | exact held_up (by assumption) (by assumption) | exact held_set hz 4 _ (held_set hz 3 _ (held_set hz 2 _ (held_set hz 1 _ (held_set hz 0 _ (by assumption))))))
    (first | (go_at_call 35; refine (clamp_one _ _ _ _).mono ?_; rintro x wn ⟨rfl, hg⟩))
  obtain ⟨hu, -, -, -, -, -, -, -, -, -, -, -, -, -, -, -, g0, g1, g2, g3, g4, -⟩ := ‹Up w _ ∧ _›
  obtain ⟨f0, f1, f2, f3, f4⟩ := five_get rfl g0 g1 g2 g3 g4
  clear g0 g1 g2 g3 g4
  go_wp2
  refine bodyPost_ret (v := clampv m e c r q) (by simp [results, Try.results25, go_sem, f0, f1, f2, f3, f4, clampv]) rfl ⟨rfl, hu⟩

end Go.Proofs.Ytjdfgefmjiiojaa
