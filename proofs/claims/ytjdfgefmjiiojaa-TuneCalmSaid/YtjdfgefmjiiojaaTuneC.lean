/- Contracts of the four controllers of package tune: what each leaves in the setting behind its pointer; nothing else that was there has turned. -/
import Derived.Test.YtjdfgefmjiiojaaTuneB
namespace Go.Proofs.Ytjdfgefmjiiojaa
open Go.RowKit

/-- Of what was there in W at most block b has turned, and no mark; in b lie five numbers. -/
structure On (b : Nat) (W w' : World) (m e c r q : Int) : Prop where
  grown : W.grownBy w' (some b)
  marks : ∀ a, w'.frozen? a = W.frozen? a
  c0 : w'.cell? ⟨b, 0, none⟩ = some (.int .i64 m)
  c1 : w'.cell? ⟨b, 1, none⟩ = some (.int .i64 e)
  c2 : w'.cell? ⟨b, 2, none⟩ = some (.int .i64 c)
  c3 : w'.cell? ⟨b, 3, none⟩ = some (.int .i64 r)
  c4 : w'.cell? ⟨b, 4, none⟩ = some (.int .i64 q)

theorem grown_set {W w' : World} {b i : Nat} {x : Value} (h : W.grownBy w' (some b)) : W.grownBy (w'.setCell ⟨b, i, none⟩ x) (some b) :=
  ⟨h.os, h.tape, h.output, by simpa [World.setCell] using h.size, fun k hk hne => (Below.heap_setCell _ _ _ _ (fun e => hne (by rw [e]))).trans (h.block k hk hne)⟩
theorem grown_up {W w1 w2 : World} {b : Nat} (h : W.grownBy w1 (some b)) (k : Up w1 w2) : W.grownBy w2 (some b) :=
  ⟨k.1.os.trans h.os, k.1.tape.trans h.tape, k.1.output.trans h.output, Nat.le_trans h.size k.1.size, fun i hi hne => (k.1.block i (Nat.lt_of_lt_of_le hi h.size)).trans (h.block i hi hne)⟩
theorem On.start {b : Nat} {W : World} {m e c r q : Int} (h0 : W.cell? ⟨b, 0, none⟩ = some (.int .i64 m)) (h1 : W.cell? ⟨b, 1, none⟩ = some (.int .i64 e)) (h2 : W.cell? ⟨b, 2, none⟩ = some (.int .i64 c)) (h3 : W.cell? ⟨b, 3, none⟩ = some (.int .i64 r)) (h4 : W.cell? ⟨b, 4, none⟩ = some (.int .i64 q)) : On b W W m e c r q :=
  ⟨⟨rfl, rfl, rfl, Nat.le_refl _, fun _ _ _ => rfl⟩, fun _ => rfl, h0, h1, h2, h3, h4⟩
theorem On.up {b : Nat} {W w1 w2 : World} {m e c r q : Int} (h : On b W w1 m e c r q) (k : Up w1 w2) : On b W w2 m e c r q :=
  ⟨grown_up h.grown k, fun a => (k.2 a).trans (h.marks a), cell_up k h.c0, cell_up k h.c1, cell_up k h.c2, cell_up k h.c3, cell_up k h.c4⟩
theorem On.set1 {b : Nat} {W w1 : World} {m e c r q : Int} (h : On b W w1 m e c r q) (x : Int) : On b W (w1.setCell ⟨b, 1, none⟩ (.int .i64 x)) m x c r q :=
  ⟨grown_set h.grown, fun a => (World.frozen?_setCell _ _ _ _).trans (h.marks a), (cell_off (by decide)).trans h.c0, World.cell?_setCell_same _ _ _ h.c1, (cell_off (by decide)).trans h.c2, (cell_off (by decide)).trans h.c3, (cell_off (by decide)).trans h.c4⟩
theorem On.set2 {b : Nat} {W w1 : World} {m e c r q : Int} (h : On b W w1 m e c r q) (x : Int) : On b W (w1.setCell ⟨b, 2, none⟩ (.int .i64 x)) m e x r q :=
  ⟨grown_set h.grown, fun a => (World.frozen?_setCell _ _ _ _).trans (h.marks a), (cell_off (by decide)).trans h.c0, (cell_off (by decide)).trans h.c1, World.cell?_setCell_same _ _ _ h.c2, (cell_off (by decide)).trans h.c3, (cell_off (by decide)).trans h.c4⟩
theorem On.set3 {b : Nat} {W w1 : World} {m e c r q : Int} (h : On b W w1 m e c r q) (x : Int) : On b W (w1.setCell ⟨b, 3, none⟩ (.int .i64 x)) m e c x q :=
  ⟨grown_set h.grown, fun a => (World.frozen?_setCell _ _ _ _).trans (h.marks a), (cell_off (by decide)).trans h.c0, (cell_off (by decide)).trans h.c1, (cell_off (by decide)).trans h.c2, World.cell?_setCell_same _ _ _ h.c3, (cell_off (by decide)).trans h.c4⟩
theorem On.set4 {b : Nat} {W w1 : World} {m e c r q : Int} (h : On b W w1 m e c r q) (x : Int) : On b W (w1.setCell ⟨b, 4, none⟩ (.int .i64 x)) m e c r x :=
  ⟨grown_set h.grown, fun a => (World.frozen?_setCell _ _ _ _).trans (h.marks a), (cell_off (by decide)).trans h.c0, (cell_off (by decide)).trans h.c1, (cell_off (by decide)).trans h.c2, (cell_off (by decide)).trans h.c3, World.cell?_setCell_same _ _ _ h.c4⟩
theorem On.to {b : Nat} {W w1 : World} {m e c r q m' e' c' r' q' : Int} (h : On b W w1 m e c r q) (hm : m = m') (he : e = e') (hc : c = c') (hr : r = r') (hq : q = q') : On b W w1 m' e' c' r' q' := by
  subst hm he hc hr hq; exact h

/-- What is asked of the setting behind the pointer: five numbers in block b that may be written. -/
structure Set5 (b : Nat) (W : World) (m e c r q : Int) : Prop where
  c0 : W.cell? ⟨b, 0, none⟩ = some (.int .i64 m)
  c1 : W.cell? ⟨b, 1, none⟩ = some (.int .i64 e)
  c2 : W.cell? ⟨b, 2, none⟩ = some (.int .i64 c)
  c3 : W.cell? ⟨b, 3, none⟩ = some (.int .i64 r)
  c4 : W.cell? ⟨b, 4, none⟩ = some (.int .i64 q)
  free : ∀ i, W.frozen? ⟨b, i, none⟩ = false
theorem Set5.on {b : Nat} {W : World} {m e c r q : Int} (h : Set5 b W m e c r q) : On b W W m e c r q := On.start h.c0 h.c1 h.c2 h.c3 h.c4
theorem On.five {b : Nat} {W w' : World} {m e c r q m' e' c' r' q' : Int} (h : Set5 b W m e c r q) (k : On b W w' m' e' c' r' q') : Set5 b w' m' e' c' r' q' :=
  ⟨k.c0, k.c1, k.c2, k.c3, k.c4, fun i => (k.marks _).trans (h.free i)⟩
theorem alloc_up (W : World) (c : Array Value) (t : TypeId) : Up W (W.alloc (.cells c t)) := (Up.refl W).alloc c t

def evv (d u e : Int) : Int := if 4 * u > d then e / 2 else e + 1
def cav (u h : Int) : Int := if u > 0 ∧ u ≤ 2 * h then 1 else 0
def rev (d u r : Int) : Int := if 2 * u > d then r / 2 else 2 * r
def quv (l : Int) : Int := if l > 256 then 2 else if l > 64 then 1 else 0
theorem evv_yes {d u e : Int} (h : d < 4 * u) : e / 2 = evv d u e := by unfold evv; rw [if_pos h]
theorem evv_no {d u e : Int} (h : 4 * u ≤ d) : e + 1 = evv d u e := by unfold evv; rw [if_neg (by omega)]
theorem rev_yes {d u e : Int} (h : d < 2 * u) : e / 2 = rev d u e := by unfold rev; rw [if_pos h]
theorem rev_no {d u e : Int} (h : 2 * u ≤ d) : 2 * e = rev d u e := by unfold rev; rw [if_neg (by omega)]

theorem rev_no' {d u e : Int} (h : 2 * u ≤ d) : e * 2 = rev d u e := by rw [Int.mul_comm]; exact rev_no h

set_option maxHeartbeats 1000000 in
theorem checkpoints_any (b : Nat) (m e c r q d u h l : Int) (w : World) (hs : Set5 b w m e c r q) (he : 1 ≤ e) (he' : e ≤ 64) (hu : 0 ≤ u) (hu' : u ≤ 1099511627776) :
    Calls Try.prog 38 #[.pointer (some ⟨b, 0, none⟩), .agg #[.int .i64 d, .int .i64 u, .int .i64 h, .int .i64 l]] w fun x w' => x = .returned (.tuple #[]) ∧ On b w w' m (evv d u e) c r q := by
  have hon := hs.on
  have k0 := hs.c0
  have k1 := hs.c1
  have k2 := hs.c2
  have k3 := hs.c3
  have k4 := hs.c4
  have kf := hs.free
  have hbl := World.block_lt_of_cell? w _ k0
  clear hs
  by_cases ht : d < 4 * u
  · go_enter Try.func38, Try.ntmps38
    go_wp2
    go_end0
    exact ⟨rfl, (((hon.set1 _).set1 _).up (alloc_up _ _ _)).to rfl (evv_yes ht) rfl rfl rfl⟩
  · go_enter Try.func38, Try.ntmps38
    go_wp2
    go_end0
    exact ⟨rfl, ((hon.set1 _).up (alloc_up _ _ _)).to rfl (evv_no ht) rfl rfl rfl⟩

set_option maxHeartbeats 1000000 in
theorem cancellation_any (b : Nat) (m e c r q d u h l : Int) (w : World) (hs : Set5 b w m e c r q) (hu : 0 ≤ u) (hu' : u ≤ 1099511627776) (hh : 0 ≤ h) (hh' : h ≤ 1099511627776) :
    Calls Try.prog 39 #[.pointer (some ⟨b, 0, none⟩), .agg #[.int .i64 d, .int .i64 u, .int .i64 h, .int .i64 l]] w fun x w' => x = .returned (.tuple #[]) ∧ On b w w' m e (cav u h) r q := by
  have hon := hs.on
  have k0 := hs.c0
  have k1 := hs.c1
  have k2 := hs.c2
  have k3 := hs.c3
  have k4 := hs.c4
  have kf := hs.free
  have hbl := World.block_lt_of_cell? w _ k0
  clear hs
  by_cases ht : 0 < u
  · by_cases ht2 : u ≤ 2 * h
    · go_enter Try.func39, Try.ntmps39
      go_wp2
      go_end0
      exact ⟨rfl, (((hon.set2 _).set2 _).up (alloc_up _ _ _)).to rfl rfl (by unfold cav; rw [if_pos ⟨ht, ht2⟩]) rfl rfl⟩
    · go_enter Try.func39, Try.ntmps39
      go_wp2
      go_end0
      exact ⟨rfl, ((hon.set2 _).up (alloc_up _ _ _)).to rfl rfl (by unfold cav; rw [if_neg (by omega)]) rfl rfl⟩
  · go_enter Try.func39, Try.ntmps39
    go_wp2
    go_end0
    exact ⟨rfl, ((hon.set2 _).up (alloc_up _ _ _)).to rfl rfl (by unfold cav; rw [if_neg (by omega)]) rfl rfl⟩

set_option maxHeartbeats 1000000 in
theorem window_any (b : Nat) (m e c r q d u h l : Int) (w : World) (hs : Set5 b w m e c r q) (hr : 1 ≤ r) (hr' : r ≤ 1048576) (hu : 0 ≤ u) (hu' : u ≤ 1099511627776) :
    Calls Try.prog 40 #[.pointer (some ⟨b, 0, none⟩), .agg #[.int .i64 d, .int .i64 u, .int .i64 h, .int .i64 l]] w fun x w' => x = .returned (.tuple #[]) ∧ On b w w' m e c (rev d u r) q := by
  have hon := hs.on
  have k0 := hs.c0
  have k1 := hs.c1
  have k2 := hs.c2
  have k3 := hs.c3
  have k4 := hs.c4
  have kf := hs.free
  have hbl := World.block_lt_of_cell? w _ k0
  clear hs
  by_cases ht : d < 2 * u
  · go_enter Try.func40, Try.ntmps40
    go_wp2
    refine bodyPost_ret (results_none rfl _ _ _) rfl ?_
    exact ⟨rfl, ((hon.set3 _).up (alloc_up _ _ _)).to rfl rfl rfl (rev_yes ht) rfl⟩
  · go_enter Try.func40, Try.ntmps40
    go_wp2
    go_end0
    exact ⟨rfl, ((hon.set3 _).up (alloc_up _ _ _)).to rfl rfl rfl (rev_no' ht) rfl⟩

set_option maxHeartbeats 1000000 in
theorem structure_any (b : Nat) (m e c r q d u h l : Int) (w : World) (hs : Set5 b w m e c r q)  :
    Calls Try.prog 41 #[.pointer (some ⟨b, 0, none⟩), .agg #[.int .i64 d, .int .i64 u, .int .i64 h, .int .i64 l]] w fun x w' => x = .returned (.tuple #[]) ∧ On b w w' m e c r (quv l) := by
  have hon := hs.on
  have k0 := hs.c0
  have k1 := hs.c1
  have k2 := hs.c2
  have k3 := hs.c3
  have k4 := hs.c4
  have kf := hs.free
  have hbl := World.block_lt_of_cell? w _ k0
  clear hs
  by_cases ht : 256 < l
  · go_enter Try.func41, Try.ntmps41
    go_wp2
    go_end0
    exact ⟨rfl, ((((hon.set4 _).set4 _).set4 _).up (alloc_up _ _ _)).to rfl rfl rfl rfl (by unfold quv; rw [if_pos ht])⟩
  · by_cases ht2 : 64 < l
    · go_enter Try.func41, Try.ntmps41
      go_wp2
      go_end0
      exact ⟨rfl, (((hon.set4 _).set4 _).up (alloc_up _ _ _)).to rfl rfl rfl rfl (by unfold quv; rw [if_neg (by omega), if_pos (by omega)])⟩
    · go_enter Try.func41, Try.ntmps41
      go_wp2
      go_end0
      exact ⟨rfl, ((hon.set4 _).up (alloc_up _ _ _)).to rfl rfl rfl rfl (by unfold quv; rw [if_neg (by omega), if_neg (by omega)])⟩

end Go.Proofs.Ytjdfgefmjiiojaa
