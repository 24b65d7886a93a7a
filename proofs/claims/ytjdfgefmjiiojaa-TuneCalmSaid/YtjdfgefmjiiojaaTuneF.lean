/- The contracts of Turn and of its reference with their five answers named; what a law over a setting and statistics holds of memory. -/
import Derived.Test.YtjdfgefmjiiojaaTuneE
namespace Go.Proofs.Ytjdfgefmjiiojaa
open Go.RowKit

def tm (m : Int) : Int := clv 0 2 m
def te (e d u : Int) : Int := clv 1 64 (evv (num d) (num u) (clv 1 64 e))
def tc (u h : Int) : Int := cav (num u) (num h)
def tr (r d u : Int) : Int := clv 1 1048576 (rev (num d) (num u) (clv 1 1048576 r))
def tq (l : Int) : Int := quv (num l)
theorem turn_out (m e c r q d u h l : Int) (w : World) :
    Calls Try.prog 30 #[.agg #[.int .i64 m, .int .i64 e, .int .i64 c, .int .i64 r, .int .i64 q], .agg #[.int .i64 d, .int .i64 u, .int .i64 h, .int .i64 l]] w fun x w' => x = .returned (.agg #[.int .i64 (tm m), .int .i64 (te e d u), .int .i64 (tc u h), .int .i64 (tr r d u), .int .i64 (tq l)]) ∧ Up w w' := by
  have h1 := turn_any m e c r q d u h l w
  rw [turnv_eq] at h1
  exact h1
theorem refturn_out (m e c r q d u h l : Int) (w : World) :
    Calls Try.prog 31 #[.agg #[.int .i64 m, .int .i64 e, .int .i64 c, .int .i64 r, .int .i64 q], .agg #[.int .i64 d, .int .i64 u, .int .i64 h, .int .i64 l]] w fun x w' => x = .returned (.agg #[.int .i64 (tm m), .int .i64 (te e d u), .int .i64 (tc u h), .int .i64 (tr r d u), .int .i64 (tq l)]) ∧ Up w w' := by
  have h1 := refturn_any m e c r q d u h l w
  rw [turnv_eq] at h1
  exact h1

/-- The two arguments' cells. -/
def Both (w : World) (m e c r q d u h l : Int) (w' : World) : Prop :=
  Up w w' ∧ w'.cell? ⟨w.heap.size, 0, none⟩ = some (.int .i64 m) ∧ w'.cell? ⟨w.heap.size, 1, none⟩ = some (.int .i64 e) ∧ w'.cell? ⟨w.heap.size, 2, none⟩ = some (.int .i64 c) ∧ w'.cell? ⟨w.heap.size, 3, none⟩ = some (.int .i64 r) ∧ w'.cell? ⟨w.heap.size, 4, none⟩ = some (.int .i64 q) ∧
    w'.cell? ⟨w.heap.size + 1, 0, none⟩ = some (.int .i64 d) ∧ w'.cell? ⟨w.heap.size + 1, 1, none⟩ = some (.int .i64 u) ∧ w'.cell? ⟨w.heap.size + 1, 2, none⟩ = some (.int .i64 h) ∧ w'.cell? ⟨w.heap.size + 1, 3, none⟩ = some (.int .i64 l)
theorem both_up {w : World} {m e c r q d u h l : Int} {W W' : World} (k : Both w m e c r q d u h l W) (hu : Up W W') : Both w m e c r q d u h l W' := by
  obtain ⟨h0, h1, h2, h3, h4, h5, h6, h7, h8, h9⟩ := k
  exact ⟨h0.trans hu, cell_up hu h1, cell_up hu h2, cell_up hu h3, cell_up hu h4, cell_up hu h5, cell_up hu h6, cell_up hu h7, cell_up hu h8, cell_up hu h9⟩
theorem both_start (w : World) (m e c r q d u h l : Int) :
    Both w m e c r q d u h l ((w.alloc (.cells #[.int .i64 m, .int .i64 e, .int .i64 c, .int .i64 r, .int .i64 q] 35)).alloc (.cells #[.int .i64 d, .int .i64 u, .int .i64 h, .int .i64 l] 44)) :=
  ⟨((Up.refl w).alloc _ _).alloc _ _, cell_up (alloc_up _ _ _) (World.cell?_alloc_new _ _ _ _), cell_up (alloc_up _ _ _) (World.cell?_alloc_new _ _ _ _), cell_up (alloc_up _ _ _) (World.cell?_alloc_new _ _ _ _), cell_up (alloc_up _ _ _) (World.cell?_alloc_new _ _ _ _), cell_up (alloc_up _ _ _) (World.cell?_alloc_new _ _ _ _),
    World.cell?_alloc_at _ _ _ _ (by simp), World.cell?_alloc_at _ _ _ _ (by simp), World.cell?_alloc_at _ _ _ _ (by simp), World.cell?_alloc_at _ _ _ _ (by simp)⟩
theorem both_drew {w : World} {m e c r q d u h l : Int} {W : World} (k : Both w m e c r q d u h l W) : Both w m e c r q d u h l W.drew := both_up k (Up.refl _).drew
theorem eq5_self (a b c d e : Int) : eq5 a b c d e a b c d e = true := by unfold eq5; simp
end Go.Proofs.Ytjdfgefmjiiojaa
