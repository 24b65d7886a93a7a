/- 'Up w w'': w' is w with new memory behind it, and nothing that was there has turned: what a call of a pure function leaves. -/
import Derived.WalkKit
import Derived.WalkSpells
namespace Go.Proofs.Ytjdfgefmjiiojaa
open Go.RowKit

def Up (w w' : World) : Prop := Below w.heap.size w w' ∧ ∀ a, w'.frozen? a = w.frozen? a

theorem Up.refl (w : World) : Up w w := ⟨Below.refl _ _, fun _ => rfl⟩
theorem Up.alloc {a w : World} (h : Up a w) (c : Array Value) (t : TypeId) : Up a (w.alloc (.cells c t)) :=
  ⟨h.1.alloc h.1.size _, fun x => (frozen?_alloc_cells _ _ _ x).trans (h.2 x)⟩
theorem Up.drew {a w : World} (h : Up a w) : Up a w.drew := ⟨h.1.drew, h.2⟩
theorem Up.setCell {a w : World} (h : Up a w) {p : Addr} (hp : a.heap.size ≤ p.block) (v : Value) : Up a (w.setCell p v) :=
  ⟨h.1.setCell hp v, fun x => (World.frozen?_setCell _ _ _ _).trans (h.2 x)⟩
theorem Up.trans {a b c : World} (h : Up a b) (k : Up b c) : Up a c :=
  ⟨h.1.trans (k.1.mono h.1.size), fun x => (k.2 x).trans (h.2 x)⟩
theorem Up.grown {w w' : World} (h : Up w w') : Grown w w' := ⟨h.1.frame _, h.2, h.1.size⟩
/-- What the walk wants of a callee's world: old cells, all marks, the size. -/
theorem Up.facts {W w1 : World} (h : Up W w1) : (∀ b o, b < W.heap.size → w1.cell? ⟨b, o, none⟩ = W.cell? ⟨b, o, none⟩) ∧ (∀ a, w1.frozen? a = W.frozen? a) ∧ W.heap.size ≤ w1.heap.size :=
  ⟨fun b o hb => h.1.cell (p := ⟨b, o, none⟩) hb, h.2, h.1.size⟩
theorem frozen_new (w : World) (a : Addr) (h : w.heap.size ≤ a.block) : w.frozen? a = false := by
  simp [World.frozen?, h]
end Go.Proofs.Ytjdfgefmjiiojaa
