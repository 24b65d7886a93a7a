/- Contracts and plain laws for the statement of this claim; no condition. Here: What is taken back waits again: plain; the cells of what Back and All hand out. WholeReplay: what the setup of a good world leaves. A world and bytes that came in as arguments, opened. A message, a state: not unlike itself. WholeReplay: a good world: the walk. -/
import Derived.Test.YtalmjdlcogdpmaaGreatDoorR12
import Derived.Test.YtalmjdlcogdpmaaGreatDoorRows
import Derived.ProofKit
import Derived.OpenShut
import Derived.Deep.Slices
import Derived.Lib.SmallJoins
import Derived.Test.YtalmjdlcogdpmaaGreatDoorR6
import Derived.Laws.StructEq
import Derived.ChangeKeysEq
set_option linter.unusedVariables false
set_option linter.unusedSimpArgs false

namespace Go.Proofs.YtalmjdlcogdpmaaGreatDoor
open Go.RowKit
section
variable {A Q : List Msg} {es : List Ent} {E : Env} {i0 : Sta} {W : World} {xs : List Value} {ov : Value} {e : Ent} {j k n : Nat}
theorem gone_cons (hj : es[j]? = some e) : (es.drop j).map Ent.m ++ Q = e.m :: ((es.drop (j + 1)).map Ent.m ++ Q) := by
  obtain ⟨hl, hge⟩ := List.getElem?_eq_some_iff.1 hj
  rw [List.drop_eq_getElem_cons hl, hge]
  rfl
theorem gone_no (p : Plain A es Q) (g : Good A) (hj : es[j]? = some e) : ∀ y ∈ (es.drop (j + 1)).map Ent.m ++ Q, y.u ≠ e.m.u := by
  have h := p.nodup g
  have hs : es.map Ent.m ++ Q = (es.take j).map Ent.m ++ (e.m :: ((es.drop (j + 1)).map Ent.m ++ Q)) := by
    rw [← gone_cons hj, ← List.append_assoc, ← List.map_append, List.take_append_drop]
  rw [hs, List.pairwise_append] at h
  intro y hy e'
  exact (List.pairwise_cons.1 h.2.1).1 y hy e'.symm
theorem gone_len (p : Plain A es Q) (g : Good A) : ((es.drop j).map Ent.m ++ Q).length ≤ 40 := by
  have := p.len g
  simp
  omega
theorem BackOut.blk (h : OwnR W 51 19 ov (es.length - k) xs) (o : BackOut E i0 es k es.length xs) (hk : k ≤ j) (hj : es[j]? = some e) :
    ∃ g cap, ov = .slice (some ⟨g, 0, none⟩) (es.length - k) cap ∧ BlkAt W g ((es.length - 1 - j) * 19) e.m.list := by
  have hl := (List.getElem?_eq_some_iff.1 hj).1
  obtain ⟨g, cap, hv⟩ := h.pos (by omega)
  obtain ⟨p, c, hx⟩ := o j e hk hl hj
  refine ⟨g, cap, hv, ⟨fun r hr => ?_⟩⟩
  have hr7 : r < 7 := hr
  refine h.cell (g := g) (by rw [hv]; rfl) _ _ ?_
  rw [hx r (by omega)]
  obtain rfl | rfl | rfl | rfl | rfl | rfl | rfl : r = 0 ∨ r = 1 ∨ r = 2 ∨ r = 3 ∨ r = 4 ∨ r = 5 ∨ r = 6 := by omega
  all_goals rfl
theorem OutIs.blk (h : OwnR W 51 19 ov es.length xs) (o : OutIs E i0 es es.length xs) (hj : es[j]? = some e) :
    ∃ g cap p c, ov = .slice (some ⟨g, 0, none⟩) es.length cap ∧ BlkAt W g (j * 19) (entList e.m (stOf E i0 ((es.take j).map Ent.m)) e.f (.slice p e.sent.length c)) := by
  have hl := (List.getElem?_eq_some_iff.1 hj).1
  obtain ⟨g, cap, hv⟩ := h.pos (by omega)
  obtain ⟨p, c, hx⟩ := o.2 j e hl hj
  refine ⟨g, cap, p, c, hv, ⟨fun r hr => ?_⟩⟩
  have hr19 : r < 19 := hr
  refine h.cell (g := g) (by rw [hv]; rfl) _ _ ?_
  rw [hx r hr19, List.getElem?_eq_getElem hr, List.getD_eq_getElem?_getD, List.getElem?_eq_getElem hr]
  rfl
/-- An entry's cells, part by part. -/
structure EntAt (W : World) (g o : Nat) (m : Msg) (s : Sta) (f : Int) (v : Value) : Prop where
  m : BlkAt W g o m.list
  s : BlkAt W g (o + 7) s.list
  f : W.cell? ⟨g, o + 17, none⟩ = some (.int .i64 f)
  v : W.cell? ⟨g, o + 18, none⟩ = some v
theorem EntAt.of {g o : Nat} {m : Msg} {s : Sta} {f : Int} {v : Value} (h : BlkAt W g o (entList m s f v)) : EntAt W g o m s f v where
  m := ⟨fun r hr => by
    have hr7 : r < 7 := hr
    have h1 := h.get r (show r < 19 by omega)
    obtain rfl | rfl | rfl | rfl | rfl | rfl | rfl : r = 0 ∨ r = 1 ∨ r = 2 ∨ r = 3 ∨ r = 4 ∨ r = 5 ∨ r = 6 := by omega
    all_goals exact h1⟩
  s := ⟨fun r hr => by
    have hr7 : r < 10 := hr
    have h1 := h.get (7 + r) (show 7 + r < 19 by omega)
    rw [← Nat.add_assoc] at h1
    obtain rfl | rfl | rfl | rfl | rfl | rfl | rfl | rfl | rfl | rfl : r = 0 ∨ r = 1 ∨ r = 2 ∨ r = 3 ∨ r = 4 ∨ r = 5 ∨ r = 6 ∨ r = 7 ∨ r = 8 ∨ r = 9 := by omega
    all_goals exact h1⟩
  f := h.get 17 (show 17 < 19 by omega)
  v := h.get 18 (show 18 < 19 by omega)
end
end Go.Proofs.YtalmjdlcogdpmaaGreatDoor

namespace Go.Proofs.YtalmjdlcogdpmaaGreatDoor
open Go.RowKit

/-- The bytes handed in. -/
def TimesIs (W : World) (tp : Option Addr) (n : Nat) (tm : Nat → Nat) : Prop :=
  ∀ i, i < n → tm i < 256 ∧ ∃ b o, tp = some ⟨b, o, none⟩ ∧ W.cell? ⟨b, o + i, none⟩ = some (.int .u8 (tm i))
/-- What the setup leaves: two logs and a queue, all new and apart. -/
structure SetUp (w W : World) (a b q : Nat) (E : Env) (every : Nat) (Va Vb : LogV) (F : Nat → Prop) : Prop where
  up : Up w W
  la : LogIs W a Va E zeroSta [] every false
  lb : LogIs W b Vb E zeroSta [] 1 false
  qu : QIs W q F []
  nt : ∀ k, turns a Va k ∨ k = q ∨ F k → w.heap.size ≤ k
  nb : ∀ k, turns b Vb k → w.heap.size ≤ k
  ab : ∀ k, turns a Va k → ¬ foot b Vb E [] k
  ba : ∀ k, turns b Vb k → ¬ foot a Va E [] k
  qa : ∀ k, (k = q ∨ F k) → ¬ foot a Va E [] k ∧ ¬ foot b Vb E [] k
/-- The blocks that a and the queue may turn. -/
def TurnA (a q : Nat) (Va : LogV) (F : Nat → Prop) (k : Nat) : Prop := turns a Va k ∨ k = q ∨ F k
/-- The blocks that they must not. -/
def KeepB (b : Nat) (Vb : LogV) (v : Value) (k : Nat) : Prop := turns b Vb k ∨ sameBlock v k
section
variable {w W w' : World} {a b q : Nat} {E : Env} {every : Nat} {Va Vb : LogV} {F : Nat → Prop} {es : List Ent} {Q : List Msg} {K : Nat → Prop}
theorem SetUp.upw (S : SetUp w W a b q E every Va Vb F) (M : Mem (TurnA a q Va F) K W w' a q E every es Q) : Up w w' :=
  ((Chg.of_up (S := fun _ => False) S.up).trans M.up (fun k hk h => by have := S.nt k h; omega)).to_up (fun _ _ h => h)
theorem SetUp.start (S : SetUp w W a b q E every Va Vb F) : Mem (TurnA a q Va F) (KeepB b Vb (.slice none 0 0)) W W a q E every [] [] :=
  ⟨⟨Va, F, S.la, S.qu, fun k hk hq => (S.qa k hq).1 hk, fun k hk => .inl (.inl hk), fun k hk => .inl (.inr hk), fun k hk => by
    rcases hk with h | h
    · exact ⟨S.ba k h, fun hq => (S.qa k hq).2 (foot_iff.2 (.inl h))⟩
    · exact absurd h no_block⟩, fun k hk => by
    rcases hk with h | h
    · exact S.lb.r.foot_lt k (foot_iff.2 (.inl h))
    · exact absurd h no_block, ⟨fun e h => by simp at h, fun j e h => by simp at h, fun j e h => by simp at h, fun e h => by simp at h, Nat.zero_le _, zeroSta_good⟩, Chg.refl _ _⟩
/-- The other log is as it was. -/
theorem SetUp.other (S : SetUp w W a b q E every Va Vb F) (M : Mem (TurnA a q Va F) K W w' a q E every es Q) : LogIs w' b Vb E zeroSta [] 1 false :=
  S.lb.chg M.up (fun k hk hf => by
    rcases hk with h | h
    · exact S.ab k h hf
    · exact (S.qa k h).2 hf)
theorem TimesIs.up {tp : Option Addr} {n : Nat} {tm : Nat → Nat} (h : TimesIs w tp n tm) (hu : Up w W) : TimesIs W tp n tm := fun i hi => by
  obtain ⟨h1, b, o, h2, h3⟩ := h i hi
  exact ⟨h1, b, o, h2, cell_up hu h3⟩
theorem Mem.shrink {T K K' : Nat → Prop} (M : Mem T K w W a q E every es Q) (h : ∀ k, K' k → K k) : Mem T K' w W a q E every es Q :=
  M.off (Chg.refl (fun _ => False) W) (fun _ h => h.elim) (fun _ _ h => h.elim) (fun k hk => .inl (h k hk)) (fun k hk => M.kl k (h k hk))
theorem all_no {tm : Nat → Nat} {i : Nat} {y : Msg} (h : y ∈ allTo tm i) : y.u ≠ i := by
  obtain ⟨j, hj, rfl⟩ := List.mem_map.1 h
  have := List.mem_range.1 hj
  show (j : Int) ≠ (i : Int)
  omega
theorem EntsOk.nil {i0 : Sta} (k : EntsOk E i0 es) : EntsOk E i0 [] := ⟨fun e h => by simp at h, fun j e h => by simp at h, fun j e h => by simp at h, fun e h => by simp at h, Nat.zero_le _, k.g⟩
end
end Go.Proofs.YtalmjdlcogdpmaaGreatDoor

namespace Go.Proofs.YtalmjdlcogdpmaaGreatDoor
open Go.Joins Go.ChangeShapes Go.WideShapes Go.ChangeAt Go.RowKit Go.Deep
set_option maxRecDepth 100000

theorem cells3 : Tryz.prog.cellsOf 3 = 1 := by kernel_rfl
theorem cells2 : Tryz.prog.cellsOf 2 = 1 := by kernel_rfl
theorem cells4 : Tryz.prog.cellsOf 4 = 1 := by kernel_rfl
theorem cells5 : Tryz.prog.cellsOf 5 = 1 := by kernel_rfl
theorem cellsIns : Tryz.prog.cellsOf 123 = 4 := by kernel_rfl
theorem cellsLnk : Tryz.prog.cellsOf 71 = 4 := by kernel_rfl
theorem cellsWld : Tryz.prog.cellsOf 26 = 4 := by kernel_rfl
theorem list4 {α : Type} {l : List α} (h : l.length = 4) : ∃ a b c d, l = [a, b, c, d] := by
  match l, h with
  | [a, b, c, d], _ => exact ⟨a, b, c, d, rfl⟩
instance : Inhabited Ins := ⟨⟨0, 0, 0, 0⟩⟩
instance : Inhabited Lnk := ⟨⟨0, 0, 0, false⟩⟩
section
variable {H : Type} {enc : TypeId × Value → H} {w : World} {base : Nat} {spare : Nat → Bool} {held : Bool} {fuel : Nat} {cs : List Value} {x : DataW H × List MemPlace}
theorem bare {b o i j : Nat} {a : Addr} (h : a.spot = none) (hb : a.block = b) (ho : a.off = o) : a.add (i + j) = ⟨b, o + i + j, none⟩ := by
  obtain ⟨b', o', s'⟩ := a
  simp only at h hb ho
  subst h hb ho
  rw [add_plain, Nat.add_assoc]
theorem open_ins {v : Value} (h : DataW.trod enc Tryz.prog w base spare held fuel 22 [v] = some x) (hs : ∀ a l c, v = .slice (some a) l c → a.spot = none) : ∃ n l, InsSlice w v n l := by
  rcases open_slice Tryz.underlying22 h with ⟨h0, _⟩ | ⟨a, len, cap, m, n, D, Pl, hv, hb, hl, hm, hmm, rfl, hx⟩
  · simp only [List.cons.injEq, and_true] at h0
    exact ⟨0, fun _ => default, .inr ⟨h0, rfl⟩⟩
  simp only [List.cons.injEq, and_true] at hv
  have ha := hs a len cap hv
  have hlm : len ≤ m := by rw [hmm]; split <;> omega
  have each : ∀ i, i < m → ∃ q : Ins, w.cell? (a.add (i * 4 + 0)) = some (.int .i64 q.op) ∧ w.cell? (a.add (i * 4 + 1)) = some (.int .i64 q.a) ∧ w.cell? (a.add (i * 4 + 2)) = some (.int .i64 q.b) ∧ w.cell? (a.add (i * 4 + 3)) = some (.int .i64 q.c) := by
    intro i hi
    obtain ⟨cs', h1, h2⟩ := hx i hi
    rw [cellsIns] at h1
    obtain ⟨_, hlen, hcell⟩ := World.cells?_some h1
    obtain ⟨y0, y1, y2, y3, k, hxy, _, u0, u1, u2, u3⟩ := trod_struct4 Tryz.underlying123 h2
    obtain ⟨v0, v1, v2, v3, rfl⟩ := list4 hlen
    simp only [cells3, List.drop, List.take] at u0 u1 u2 u3
    obtain ⟨q0, e0, _, _⟩ := DataW.trod_int Tryz.underlying3 u0
    obtain ⟨q1, e1, _, _⟩ := DataW.trod_int Tryz.underlying3 u1
    obtain ⟨q2, e2, _, _⟩ := DataW.trod_int Tryz.underlying3 u2
    obtain ⟨q3, e3, _, _⟩ := DataW.trod_int Tryz.underlying3 u3
    simp only [List.cons.injEq, and_true] at e0 e1 e2 e3
    subst e0; subst e1; subst e2; subst e3
    have c0 := hcell 0 (by omega)
    have c1 := hcell 1 (by omega)
    have c2 := hcell 2 (by omega)
    have c3 := hcell 3 (by omega)
    rw [add_add] at c0 c1 c2 c3
    exact ⟨⟨q0, q1, q2, q3⟩, by simpa using c0, by simpa using c1, by simpa using c2, by simpa using c3⟩
  obtain ⟨q, hq⟩ := choose_lt each
  obtain ⟨b, o, s⟩ := a
  simp only at ha
  subst ha
  refine ⟨len, q, .inl ⟨b, o, cap, hv, fun i hi => ?_⟩⟩
  obtain ⟨c0, c1, c2, c3⟩ := hq i (by omega)
  rw [bare rfl rfl rfl] at c0 c1 c2 c3
  exact ⟨c0, c1, c2, c3⟩
theorem open_lnk {v : Value} (h : DataW.trod enc Tryz.prog w base spare held fuel 23 [v] = some x) (hs : ∀ a l c, v = .slice (some a) l c → a.spot = none) : ∃ n l, LnkSlice w v n l := by
  rcases open_slice Tryz.underlying23 h with ⟨h0, _⟩ | ⟨a, len, cap, m, n, D, Pl, hv, hb, hl, hm, hmm, rfl, hx⟩
  · simp only [List.cons.injEq, and_true] at h0
    exact ⟨0, fun _ => default, .inr ⟨h0, rfl⟩⟩
  simp only [List.cons.injEq, and_true] at hv
  have ha := hs a len cap hv
  have hlm : len ≤ m := by rw [hmm]; split <;> omega
  have each : ∀ i, i < m → ∃ q : Lnk, w.cell? (a.add (i * 4 + 0)) = some (.int .i64 q.fr) ∧ w.cell? (a.add (i * 4 + 1)) = some (.int .i64 q.to) ∧ w.cell? (a.add (i * 4 + 2)) = some (.int .i64 q.look) ∧ w.cell? (a.add (i * 4 + 3)) = some (.bool q.loose) := by
    intro i hi
    obtain ⟨cs', h1, h2⟩ := hx i hi
    rw [cellsLnk] at h1
    obtain ⟨_, hlen, hcell⟩ := World.cells?_some h1
    obtain ⟨y0, y1, y2, y3, k, hxy, _, u0, u1, u2, u3⟩ := trod_struct4 Tryz.underlying71 h2
    obtain ⟨v0, v1, v2, v3, rfl⟩ := list4 hlen
    simp only [cells3, cells2, cells4, List.drop, List.take] at u0 u1 u2 u3
    obtain ⟨q0, e0, _, _⟩ := DataW.trod_int Tryz.underlying3 u0
    obtain ⟨q1, e1, _, _⟩ := DataW.trod_int Tryz.underlying3 u1
    obtain ⟨q2, e2, _, _⟩ := DataW.trod_int Tryz.underlying2 u2
    obtain ⟨q3, e3, _⟩ := DataW.trod_bool Tryz.underlying4 u3
    simp only [List.cons.injEq, and_true] at e0 e1 e2 e3
    subst e0; subst e1; subst e2; subst e3
    have c0 := hcell 0 (by omega)
    have c1 := hcell 1 (by omega)
    have c2 := hcell 2 (by omega)
    have c3 := hcell 3 (by omega)
    rw [add_add] at c0 c1 c2 c3
    exact ⟨⟨q0, q1, q2, q3⟩, by simpa using c0, by simpa using c1, by simpa using c2, by simpa using c3⟩
  obtain ⟨q, hq⟩ := choose_lt each
  obtain ⟨b, o, s⟩ := a
  simp only at ha
  subst ha
  refine ⟨len, q, .inl ⟨b, o, cap, hv, fun i hi => ?_⟩⟩
  obtain ⟨c0, c1, c2, c3⟩ := hq i (by omega)
  rw [bare rfl rfl rfl] at c0 c1 c2 c3
  exact ⟨c0, c1, c2, c3⟩
theorem open_times {r : Reach} {b0 : Nat} {v : Value} {d : DataW H} {p : List MemPlace} (hv : Value.okWide Tryz.prog w r b0 27 v) (h : DataW.Trod enc Tryz.prog w base spare held 27 v d p) : ∃ tp n tc tm, v = .slice tp n tc ∧ TimesIs w tp n tm := by
  obtain ⟨fuel, hf⟩ := h
  obtain ⟨a0, l0, k0, rfl⟩ := okWide_slice Tryz.underlying27 hv
  have hcell : (Value.slice a0 l0 k0).cells.toList = [Value.slice a0 l0 k0] := rfl
  rw [hcell] at hf
  rcases open_ints Tryz.underlying27 Tryz.underlying5 cells5 hf with ⟨h0, _⟩ | ⟨a, len, cap, zs, h0, hb, hl, hm, hlen, _, hc, hw⟩
  · exact ⟨none, 0, 0, fun _ => 0, by simpa using h0, fun i hi => by omega⟩
  · have hlm : len ≤ zs.length := by rw [hlen]; split <;> omega
    refine ⟨some a, len, cap, fun i => (zs.getD i 0).toNat, by simpa using h0, fun i hi => ?_⟩
    have hi' : i < zs.length := by omega
    have hwf := hw (zs.getD i 0) (by rw [List.getD_eq_getElem?_getD, List.getElem?_eq_getElem hi']; exact List.getElem_mem hi')
    have hr : 0 ≤ zs.getD i 0 ∧ zs.getD i 0 ≤ 255 := by simpa [Lit.wf, IntKind.min, IntKind.max, IntKind.signed, IntKind.bits] using hwf
    have c0 := hc 0 (by omega)
    have hs := World.cell?_spot c0
    have ci := hc i hi'
    obtain ⟨b, o, s⟩ := a
    have hs' : s = none := by simpa [Addr.add] using hs
    subst hs'
    rw [add_plain] at ci
    refine ⟨show (zs.getD i 0).toNat < 256 by omega, b, o, rfl, ?_⟩
    rw [ci, show (((zs.getD i 0).toNat : Nat) : Int) = zs.getD i 0 by omega]
theorem row_spot {r : Reach} {b0 : Nat} {c0 c1 c2 c3 : Value} (h : Value.okWide Tryz.prog w r b0 26 (.agg #[c0, c1, c2, c3])) :
    (∀ a l c, c0 = .slice (some a) l c → a.spot = none) ∧ (∀ a l c, c2 = .slice (some a) l c → a.spot = none) := by
  simp only [Value.okWide, Tryz.underlying26] at h
  obtain ⟨cs, h1, _, ts, ht, _, hc⟩ := h
  injection h1 with h1
  subst h1
  have hts : Tryz.prog.cellTypes Tryz.prog.depth 26 = some [22, 3, 23, 24] := by kernel_rfl
  rw [hts] at ht
  injection ht with ht
  subst ht
  refine ⟨fun a l c e => ?_, fun a l c e => ?_⟩
  · obtain ⟨u, hu, hk⟩ := hc 0 c0 rfl
    obtain rfl : 22 = u := by simpa using hu
    rw [e] at hk
    simp only [Cell.okWide, Cell.ok, Tryz.underlying22] at hk
    exact hk.2.2.2.1
  · obtain ⟨u, hu, hk⟩ := hc 2 c2 rfl
    obtain rfl : 23 = u := by simpa using hu
    rw [e] at hk
    simp only [Cell.okWide, Cell.ok, Tryz.underlying23] at hk
    exact hk.2.2.2.1
theorem open_world {r : Reach} {b0 : Nat} {v : Value} {d : DataW H} {p : List MemPlace} (hv : Value.okWide Tryz.prog w r b0 26 v) (h : DataW.Trod enc Tryz.prog w base spare held 26 v d p) :
    ∃ (vp vl : Value) (E : Env), v = .agg (worldList E vp vl).toArray ∧ InsSlice w vp E.np E.p ∧ LnkSlice w vl E.nl E.l := by
  obtain ⟨v0, v1, v2, v3, y0, y1, y2, y3, n, rfl, _, _, h0, h1, h2, h3⟩ := open_agg4 Tryz.underlying26 (by kernel_rfl) cellsWld hv h
  obtain ⟨s0, s2⟩ := row_spot hv
  obtain ⟨np, p, hp⟩ := open_ins h0 s0
  obtain ⟨nl, l, hl⟩ := open_lnk h2 s2
  obtain ⟨me, e1, _, _⟩ := DataW.trod_int Tryz.underlying3 h1
  obtain ⟨sd, e3, _, _⟩ := DataW.trod_int Tryz.underlying24 h3
  simp only [List.cons.injEq, and_true] at e1 e3
  subst e1; subst e3
  exact ⟨v0, v2, ⟨np, nl, p, l, me, sd, zeroMsg⟩, rfl, hp, hl⟩
end
end Go.Proofs.YtalmjdlcogdpmaaGreatDoor

namespace Go.Proofs.YtalmjdlcogdpmaaGreatDoor
open Go.RowKit

theorem ne_msg (m : Msg) (W : World) : (binOp .neq 43 m.val m.val).run Tryz.prog W = .ok (.bool false) W := by
  rw [run_neq_struct]
  simp [go_sem, Op.eqFields]
theorem u8i64 : Tryz.prog.underlying 32 = some (.array 8 2) := by kernel_rfl
theorem i8i64s : (Tryz.prog.info? 2).isSome = true := by kernel_rfl
theorem i8i64 : ∃ i, Tryz.prog.info? 2 = some i := Option.isSome_iff_exists.1 i8i64s
theorem cellsI64 : Tryz.prog.cellsOf 2 = 1 := by kernel_rfl
theorem eq_regs (s : Sta) (d : Nat) (W : World) : (Op.equalIn (d + 2) 32 (.agg #[.int .i64 (s.r 0), .int .i64 (s.r 1), .int .i64 (s.r 2), .int .i64 (s.r 3), .int .i64 (s.r 4), .int .i64 (s.r 5), .int .i64 (s.r 6), .int .i64 (s.r 7)]) (.agg #[.int .i64 (s.r 0), .int .i64 (s.r 1), .int .i64 (s.r 2), .int .i64 (s.r 3), .int .i64 (s.r 4), .int .i64 (s.r 5), .int .i64 (s.r 6), .int .i64 (s.r 7)])).run Tryz.prog W = .ok true W := by
  obtain ⟨i, hi⟩ := i8i64
  rw [run_equalIn_array W (d + 1) _ _ u8i64 hi, cellsI64, show List.range 8 = [0, 1, 2, 3, 4, 5, 6, 7] from rfl]
  simp [go_sem, Op.eqItems]
theorem ne_sta (s : Sta) (W : World) : (binOp .neq 34 s.val s.val).run Tryz.prog W = .ok (.bool false) W := by
  rw [run_neq_struct]
  simp [go_sem, Op.eqFields, eq_regs s 9997]
end Go.Proofs.YtalmjdlcogdpmaaGreatDoor

namespace Go.Proofs.YtalmjdlcogdpmaaGreatDoor
open Go.RowKit
attribute [local go_sem] upUpon_value upUpon_enter upUpon_skip upUpon_row ucUpon_value ucUpon_skip ucUpon_enter ucUpon_row

set_option maxRecDepth 100000 in
set_option maxHeartbeats 2000000 in
theorem main_ok (vp vl : Value) (tp : Option Addr) (E : Env) (kd ev n tc : Nat) (tm : Nat → Nat) (hk : kd < 256) (hv : ev < 256) (w : World) (hp : InsSlice w vp E.np E.p) (hl : LnkSlice w vl E.nl E.l) (hok : okE E) (ht : TimesIs w tp n tm)
    (hg : w.cell? ⟨0, 0, none⟩ = some (.iface 151 (.agg #[.pointer (some ⟨1, 96, none⟩)]))) :
    Calls Tryz.prog 3 #[.agg (worldList E vp vl).toArray, .slice tp n tc, .int .u8 kd, .int .u8 ev] w fun e w' => Up w w' ∧ e = .returned (.bool true) := by
  have H := Lib.hid (And.intro hp (And.intro hl (And.intro hok (And.intro ht hg))))
  clear hp hl hok ht hg
  go_enter Tryz.func3, Tryz.ntmps3
  go_upto_region 1 with (fail)
  refine wp_alloc1 (A := worldList E vp vl) fun W1 hU1 hs1 bW => ?_
  have rW := bW.get
  go_wp2_with fail
  have hn : (1 + (ev : Int) % 30) = ((1 + ev % 30 : Nat) : Int) := by omega
  rw [hn]
  obtain ⟨every, hev⟩ : ∃ every, 1 + ev % 30 = every := ⟨_, rfl⟩
  have he1 : 1 ≤ every := by omega
  have he2 : every ≤ 1024 := by omega
  rw [hev]
  clear hn hev
  have hUp := fun (W : World) (hU : Up w W) => And.intro (H.out.1.up hU) (And.intro (H.out.2.1.up hU) (cell_up hU H.out.2.2.2.2))
  have HU := Lib.hid hUp
  clear hUp
  have X1 := Lib.hid (And.intro hU1 bW)
  clear hU1 bW hs1
  refine (lognew_ok vp vl E every he1 he2 W1 (HU.out W1 X1.out.1).1 (HU.out W1 X1.out.1).2.1 H.out.2.2.1 (HU.out W1 X1.out.1).2.2).mono ?_
  rintro e w2 ⟨hU2, a, Va, rfl, hLa, hFa⟩
  have X2 := Lib.hid (And.intro (X1.out.1.trans hU2) (And.intro (X1.out.2.up hU2) (And.intro hLa hFa)))
  clear hU2 hLa hFa rW
  have rW := X2.out.2.1.get
  go_wp2_with fail
  refine (lognew_ok vp vl E 1 (by omega) (by omega) w2 (HU.out w2 X2.out.1).1 (HU.out w2 X2.out.1).2.1 H.out.2.2.1 (HU.out w2 X2.out.1).2.2).mono ?_
  rintro e w3 ⟨hU3, b, Vb, rfl, hLb, hFb⟩
  have X3 := Lib.hid (And.intro (X2.out.1.trans hU3) (And.intro hU3 (And.intro hLb hFb)))
  clear hU3 hLb hFb rW
  go_wp2_with fail
  have hn3 : ((kd : Int) % 3) = ((kd % 3 : Nat) : Int) := by omega
  rw [hn3]
  clear hn3
  refine (pendnew_any (kd % 3) (by omega) w3).mono ?_
  rintro e w4 ⟨q, F, rfl, hU4, hQ, hFq⟩
  have hlta := X2.out.2.2.1.r.foot_lt
  have hltb := X3.out.2.2.1.r.foot_lt
  have hS : SetUp w w4 a b q E every Va Vb F := {
    up := X3.out.1.trans hU4
    la := (X2.out.2.2.1.up X3.out.2.1).up hU4
    lb := X3.out.2.2.1.up hU4
    qu := hQ
    nt := fun k hk => by
      rcases hk with hk | hk
      · rcases X2.out.2.2.2 k (foot_iff.2 (.inl hk)) with h | h
        · exact X2.out.2.2.1.fa |> fun hfa => by
            rcases hk with h1 | h1
            · exact absurd (h1 ▸ .inr (.inr (.inl h))) hfa
            · exact absurd (.inr (.inr (.inl h))) (X2.out.2.2.1.fr k h1)
        · exact Nat.le_trans X1.out.1.1.size h
      · exact Nat.le_trans X3.out.1.1.size (hFq k hk)
    nb := fun k hk => by
      rcases X3.out.2.2.2 k (foot_iff.2 (.inl hk)) with h | h
      · exact X3.out.2.2.1.fa |> fun hfa => by
          rcases hk with h1 | h1
          · exact absurd (h1 ▸ .inr (.inr (.inl h))) hfa
          · exact absurd (.inr (.inr (.inl h))) (X3.out.2.2.1.fr k h1)
      · exact Nat.le_trans X2.out.1.1.size h
    ab := fun k hk hf => by
      rcases X3.out.2.2.2 k hf with h | h
      · exact X2.out.2.2.1.fa |> fun hfa => by
          rcases hk with h1 | h1
          · exact hfa (h1 ▸ .inr (.inr (.inl h)))
          · exact X2.out.2.2.1.fr k h1 (.inr (.inr (.inl h)))
      · have := hlta k (foot_iff.2 (.inl hk)); omega
    ba := fun k hk hf => by
      rcases X3.out.2.2.2 k (foot_iff.2 (.inl hk)) with h | h
      · rcases hk with h1 | h1
        · exact X3.out.2.2.1.fa (h1 ▸ .inr (.inr (.inl h)))
        · exact X3.out.2.2.1.fr k h1 (.inr (.inr (.inl h)))
      · have := hlta k hf; omega
    qa := fun k hk => ⟨fun hf => by have := hlta k hf; have := hFq k hk; have := X3.out.2.1.1.size; omega, fun hf => by have := hltb k hf; have := hFq k hk; omega⟩ }
  have X4 := Lib.hid hS
  clear hS hU4 hQ hFq hlta hltb
  go_upto_region 8 with (fail)
  go_loopw [15, 16] (fun v x wr => ∃ (i : Nat) (es : List Ent) (Q : List Msg), x = .int .i64 i ∧ i ≤ n ∧ i ≤ 40 ∧ Hid (RowM wr v (allTo tm i)) ∧ Hid (Mem (TurnA a q Va F) (KeepB b Vb v) w4 wr a q E every es Q) ∧ Hid (Plain (allTo tm i) es Q) ∧ Hid (∀ k, sameBlock v k → w4.heap.size ≤ k)) (fun _ x _ => 40 - (intOf x).toNat)
  case atStart =>
    exact ⟨0, [], [], rfl, Nat.zero_le _, Nat.zero_le _, Lib.hid (OwnR.nil _ _ _), Lib.hid X4.out.start, Lib.hid (plain_nil (List.Perm.refl _)), Lib.hid (fun k hk => absurd hk no_block)⟩
  case round =>
    obtain ⟨i, es, Q, rfl, hin, hi40, hr, hM, hP, hnew⟩ := hrel
    obtain ⟨wo, rfl⟩ : ∃ wo : World, wo = wr := ⟨_, rfl⟩
    go_upto_region 8 with (fail)
    go_cut [79] from 72 to 133 (fun v wx => ∃ bt : Bool, v = .bool bt ∧ wo = wx ∧ (bt = true → i < n ∧ i < 40))
    case first =>
      by_cases h1 : i < n
      · by_cases h2 : i < 40
        · have d1 : decide (i < n) = true := decide_eq_true h1
          have d2 : decide ((i : Int) < 40) = true := decide_eq_true (by omega)
          go_wp2
          go_meet
          case rel => exact ⟨true, rfl, rfl, fun _ => ⟨h1, h2⟩⟩
        · have d1 : decide (i < n) = true := decide_eq_true h1
          have d2 : decide ((i : Int) < 40) = false := decide_eq_false (by omega)
          go_wp2
          go_meet
          case rel => exact ⟨false, rfl, rfl, fun h => by cases h⟩
      · have d1 : decide (i < n) = false := decide_eq_false h1
        go_wp2
        go_meet
        case rel => exact ⟨false, rfl, rfl, fun h => by cases h⟩
    case rest =>
      obtain ⟨bt, rfl, rfl, hb⟩ := hcut
      cases bt
      · have g40 : Good (allTo tm i) := good_all tm hi40
        obtain ⟨A, hA⟩ : ∃ A, allTo tm i = A := ⟨_, rfl⟩
        have hAl : A.length ≤ 40 := by rw [← hA, allTo_length]; exact hi40
        rw [hA] at hr hP g40
        have HG := Lib.hid (And.intro g40 hAl)
        clear g40 hA hAl hb
        go_upto_region 23 with (fail)
        go_loopw [22] (fun x wr => ∃ (j : Nat) (es : List Ent) (Q : List Msg), x = .int .i64 j ∧ j ≤ 100 ∧ Hid (RowM wr u15 A) ∧ Hid (Mem (TurnA a q Va F) (KeepB b Vb u15) w4 wr a q E every es Q) ∧ Hid (Plain A es Q) ∧ Hid (stuckOf es = true ∨ Q.length + j ≤ 40)) (fun x _ => 100 - (intOf x).toNat)
        case atStart =>
          exact ⟨0, es, Q, rfl, Nat.zero_le _, hr, hM, hP, Lib.hid (.inr (by have := hP.out.len HG.out.1; omega))⟩
        case round =>
          clear hr hM hP
          obtain ⟨j, es, Q, rfl, hj, hr, hM, hP, hst⟩ := hrel
          obtain ⟨wo, rfl⟩ : ∃ wo : World, wo = wr := ⟨_, rfl⟩
          go_upto_region 23 with (fail)
          go_cut [140] from 134 to 145 (fun v wx => ∃ bt : Bool, v = .bool bt ∧ wo = wx ∧ (bt = true → j < 100 ∧ Q ≠ []) ∧ Hid (bt = false → stuckOf es = true ∨ Q = []))
          case first =>
            by_cases h1 : j < 100
            · have d1 : decide ((j : Int) < 100) = true := decide_eq_true (by omega)
              have hq := Mem.qlen hM.out (by have := hP.out.len HG.out.1; omega)
              have HQ := Lib.hid hq
              clear hq
              go_wp2_with fail
              refine HQ.out.mono ?_
              rintro e w5 ⟨rfl, rfl⟩
              by_cases h2 : Q = []
              · subst h2
                clear HQ
                go_wp2
                go_meet
                case rel => exact ⟨false, rfl, rfl, (fun h => by cases h), Lib.hid (fun _ => by simp)⟩
              · have h3 : 0 < Q.length := List.length_pos_iff.2 h2
                have d3 : decide ((0 : Int) < (Q.length : Int)) = true := decide_eq_true (by omega)
                have d4 : decide ((Q.length : Int) > 0) = true := decide_eq_true (by omega)
                have d5 : decide (0 < Q.length) = true := decide_eq_true (by omega)
                clear HQ
                go_wp2
                go_meet
                case rel => exact ⟨true, rfl, rfl, (fun _ => ⟨h1, h2⟩), Lib.hid (fun h => by cases h)⟩
            · have d1 : decide ((j : Int) < 100) = false := decide_eq_false (by omega)
              go_wp2
              go_meet
              case rel => exact ⟨false, rfl, rfl, (fun h => by cases h), Lib.hid (fun _ => hst.out.imp id (fun h => by omega))⟩
          case rest =>
            obtain ⟨bt, rfl, rfl, hb1, hb2⟩ := hcut
            cases bt
            · have hstop := Lib.hid (hb2.out (by trivial))
              have hnil : u15 = .slice none 0 0 ∨ ∃ x c, u15 = .slice (some x) A.length c := by
                rcases hr.out.is with ⟨h, _⟩ | ⟨g, cap, h, _⟩
                · exact .inl h
                · exact .inr ⟨_, _, h⟩
              have hS := Lib.hid (sorted_any u15 A wo (msgs_src hr.out) hnil (by have := HG.out.2; omega))
              clear hnil hb1 hb2 hst
              go_wp2_with fail
              refine hS.out.mono ?_
              rintro e w5 ⟨hU5, v', S', rfl, hrow, hper, hsrt, hnew5⟩
              clear hS
              have hSl : S'.length = A.length := hper.length_eq
              obtain ⟨pS, cS, hv5⟩ : ∃ p c, v' = .slice p S'.length c := by
                rcases hrow.is with ⟨h, h2⟩ | ⟨g, cap, h, _⟩
                · exact ⟨none, 0, by rw [h, h2]⟩
                · exact ⟨_, _, h⟩
              obtain ⟨N, hN⟩ : ∃ N, S'.length = N := ⟨_, rfl⟩
              rw [hN] at hv5
              have hN40 : N ≤ 40 := by have := HG.out.2; omega
              have M5 := hM.out.upM hU5
              have hLb := (X4.out.other hM.out).up hU5
              have hstr := srt_strict HG.out.1 hper (by rw [hSl]; exact hsrt)
              have hUw5 : Up w w5 := (X4.out.upw hM.out).trans hU5
              have hvb : ∀ k, sameBlock v' k → ¬ turns b Vb k := fun k hk hb => by
                have h1 := hnew5 k hk
                have h2 := X4.out.lb.r.foot_lt k (foot_iff.2 (.inl hb))
                have h3 := hM.out.up.size
                omega
              have X5 := Lib.hid (And.intro M5 (And.intro hP.out (And.intro hrow (And.intro hper (And.intro hstr (And.intro hN (And.intro hv5 (And.intro hUw5 hvb))))))))
              have mb0 : MemL (turns b Vb) w5 w5 b E 1 [] := ⟨⟨Vb, hLb, fun k hk => .inl hk⟩, hM.out.ok.nil, Chg.refl _ _⟩
              clear M5 hLb hstr hUw5 hvb hper hsrt hnew5 hU5 hSl hN hrow hr hM hP
              rw [hv5]
              clear hv5
              go_upto_region 28 with (fail)
              go_loopw [23] (fun x wr => ∃ (j : Nat) (eb : List Ent), x = .int .i64 j ∧ j ≤ N ∧ Hid (MemL (turns b Vb) w5 wr b E 1 eb) ∧ Hid (BAt A S' j eb)) (fun x _ => N - (intOf x).toNat)
              case atStart => exact ⟨0, [], rfl, Nat.zero_le _, Lib.hid mb0, Lib.hid (BAt.start X5.out.2.2.2.1)⟩
              case round =>
                clear mb0
                obtain ⟨j, eb, rfl, hj, hB, hA⟩ := hrel
                obtain ⟨wo, rfl⟩ : ∃ wo : World, wo = wr := ⟨_, rfl⟩
                by_cases hlt : j < N
                · have hd : decide (j < N) = true := decide_eq_true hlt
                  have hd1 : decide ((j : Int) < (N : Int)) = true := decide_eq_true (by omega)
                  have hSN := X5.out.2.2.2.2.2.1
                  obtain ⟨m, hm⟩ : ∃ m, S'[j]? = some m := ⟨S'[j]'(by omega), List.getElem?_eq_getElem _⟩
                  obtain ⟨g, cap, hv, hbe⟩ := OwnR.atM (X5.out.2.2.1.chg hB.out.up X5.out.2.2.2.2.2.2.2.2) hm
                  have hv2 := X5.out.2.2.2.2.2.2.1
                  rw [hv] at hv2
                  have hpg : pS = some ⟨g, 0, none⟩ := by injection hv2 with h1 _ _; exact h1.symm
                  subst hpg
                  obtain ⟨kb, hkb, pkb, _⟩ := id hA.out
                  have hok := H.out.2.2.1
                  have HD := Lib.hid (bdo_any hB.out pkb HG.out.1 hok (BAt.mem hm hkb))
                  have HE := Lib.hid hm
                  have rE := hbe.get
                  have rE0 := hbe.zero
                  clear hbe hm hv hv2 hSN pkb hok
                  go_wp2_with fail
                  refine HD.out.mono ?_
                  rintro e w6 ⟨⟨v6, rfl⟩, h6⟩
                  have H6 : Hid (∃ eb', MemL (turns b Vb) w5 w6 b E 1 eb' ∧ BAt A S' (j + 1) eb') := Lib.hid (by
                    rcases h6 with ⟨h1, h2⟩ | ⟨h1, x, h2, h3⟩
                    · exact ⟨eb, h2, hA.out.stay h1⟩
                    · exact ⟨_, h3, hA.out.step HG.out.1 X5.out.2.2.2.2.1 h1 HE.out h2⟩)
                  clear h6 rE rE0 hd hd1 HD
                  go_wp2
                  obtain ⟨eb', h7, h8⟩ := H6.out
                  exact ⟨⟨j + 1, eb', by go_num, by omega, Lib.hid h7, Lib.hid h8⟩, by simp [intOf]; omega⟩
                · have hd : decide (j < N) = false := decide_eq_false hlt
                  obtain rfl : j = N := by omega
                  obtain ⟨Qb, pb, hsb⟩ := BAt.done (by rw [X5.out.2.2.2.2.2.1]; exact hA.out)
                  have hes := end_eq X5.out.2.1 pb X5.out.1.ok hB.out.ok hstop.out hsb
                  have hef := fun j x y => end_f (j := j) (x := x) (y := y) X5.out.1.ok hB.out.ok hes
                  obtain ⟨V5, F5, h51, h52, h53, h54, h55, h56⟩ := X5.out.1.ex
                  have hLa := h51.chg hB.out.up (fun k hk => (h56 k (.inl hk)).1)
                  obtain ⟨Vb', hLb, _⟩ := hB.out.ex
                  have hok := H.out.2.2.1
                  have oka := X5.out.1.ok
                  have okb := hB.out.ok
                  have hUw : Up w wo := ((Chg.of_up (S := fun _ => False) X5.out.2.2.2.2.2.2.2.1).trans hB.out.up (fun k hk h => by have := X4.out.nb k h; omega)).to_up (fun _ _ h => h)
                  have hlen : es.length = eb.length := by have := congrArg List.length hes; simpa using this
                  have X6 := Lib.hid (And.intro hLa (And.intro hLb (And.intro oka (And.intro okb (And.intro hok (And.intro hes (And.intro hef (And.intro hUw hlen))))))))
                  clear hLa hLb oka okb hok hes hef hUw hlen h51 h52 h53 h54 h55 h56 pb hsb hd
                  go_upto_region 31 with (fail)
                  have HA := Lib.hid (logall_any X6.out.1 X6.out.2.2.1 X6.out.2.2.2.2.1 (entsOk_sta X6.out.2.2.1 X6.out.2.2.2.2.1) (ents_s8 X6.out.2.2.1 X6.out.2.2.2.2.1))
                  go_wp2_with fail
                  refine HA.out.mono ?_
                  rintro e w7 ⟨hU7, ox, xs, rfl, hox, hxs⟩
                  have HB := Lib.hid (logall_any (X6.out.2.1.up hU7) X6.out.2.2.2.1 X6.out.2.2.2.2.1 (entsOk_sta X6.out.2.2.2.1 X6.out.2.2.2.2.1) (ents_s8 X6.out.2.2.2.1 X6.out.2.2.2.2.1))
                  have X7 := Lib.hid (And.intro hU7 (And.intro hox hxs))
                  clear hU7 hox hxs HA
                  go_wp2_with fail
                  refine HB.out.mono ?_
                  rintro e w8 ⟨hU8, oy, ys, rfl, hoy, hys⟩
                  obtain ⟨px, cx, hpx⟩ : ∃ p c, ox = .slice p es.length c := by
                    rcases X7.out.2.1.is with ⟨h, h2⟩ | ⟨g, cap, h, _⟩
                    · exact ⟨none, 0, by rw [h, h2]⟩
                    · exact ⟨_, _, h⟩
                  obtain ⟨py, cy, hpy⟩ : ∃ p c, oy = .slice p es.length c := by
                    rw [X6.out.2.2.2.2.2.2.2.2]
                    rcases hoy.is with ⟨h, h2⟩ | ⟨g, cap, h, _⟩
                    · exact ⟨none, 0, by rw [h, h2]⟩
                    · exact ⟨_, _, h⟩
                  obtain ⟨L, hL⟩ : ∃ L, es.length = L := ⟨_, rfl⟩
                  have hL40 : L ≤ 40 := by have := X6.out.2.2.1.n; omega
                  rw [hL] at hpx hpy
                  have hUx : Up w w8 := (X6.out.2.2.2.2.2.2.2.1.trans X7.out.1).trans hU8
                  have X8 := Lib.hid (And.intro (X7.out.2.1.up hU8) (And.intro X7.out.2.2 (And.intro hoy (And.intro hys (And.intro hL (And.intro hpx (And.intro hpy hUx)))))))
                  rw [hpx, hpy]
                  obtain ⟨sE, hsE⟩ : ∃ s, stOf E zeroSta (es.map Ent.m) = s := ⟨_, rfl⟩
                  have ca : Calls Tryz.prog 16 #[.pointer (some ⟨a, 0, none⟩)] w8 fun e w' => e = .returned sE.val ∧ Up w8 w' := by
                    rw [← hsE]; exact logstate_any ((X6.out.1.up X7.out.1).up hU8)
                  have cb : ∀ W, Up w8 W → Calls Tryz.prog 16 #[.pointer (some ⟨b, 0, none⟩)] W fun e w' => e = .returned sE.val ∧ Up W w' := fun W hW => by
                    rw [← hsE, X6.out.2.2.2.2.2.1]; exact logstate_any (((X6.out.2.1.up X7.out.1).up hU8).up hW)
                  have ck : ∀ W, Up w8 W → Calls Tryz.prog 17 #[.pointer (some ⟨b, 0, none⟩)] W fun e w' => Up W w' ∧ ∃ n : Nat, 1 ≤ n ∧ n ≤ 1000001 ∧ e = .returned (.int .i64 n) := fun W hW =>
                    logkept_any (((X6.out.2.1.up X7.out.1).up hU8).up hW) (by have := X6.out.2.2.2.1.n; omega)
                  have HC := Lib.hid (And.intro ca (And.intro cb ck))
                  have hne := ne_sta sE
                  have hnn : ((L : Int) != (L : Int)) = false := by simp
                  clear hU8 hoy hys HB hsE ca cb ck hpx hpy hL
                  go_wp2_with fail
                  refine HC.out.1.mono ?_
                  rintro e w9 ⟨rfl, hU9⟩
                  have cb9 := Lib.hid (HC.out.2.1 w9 hU9)
                  have X9 := Lib.hid hU9
                  clear hU9
                  go_wp2_with fail
                  refine cb9.out.mono ?_
                  rintro e w10 ⟨rfl, hU10⟩
                  have X10 := Lib.hid (X9.out.trans hU10)
                  clear hU10 cb9
                  go_upto_region 36 with (fail)
                  go_loopw [26] (fun x wr => ∃ j : Nat, x = .int .i64 j ∧ j ≤ L ∧ Hid (Up w8 wr)) (fun x _ => L - (intOf x).toNat)
                  case atStart => exact ⟨0, rfl, Nat.zero_le _, X10⟩
                  case round =>
                    obtain ⟨j, rfl, hj, hU⟩ := hrel
                    obtain ⟨wo, rfl⟩ : ∃ wo : World, wo = wr := ⟨_, rfl⟩
                    clear hnn hne
                    by_cases hlt : j < L
                    · have hd : decide (j < L) = true := decide_eq_true hlt
                      have hd1 : decide ((j : Int) < (L : Int)) = true := decide_eq_true (by omega)
                      have hL := X8.out.2.2.2.2.1
                      have hlb := X6.out.2.2.2.2.2.2.2.2
                      obtain ⟨x, hx⟩ : ∃ x, es[j]? = some x := ⟨es[j]'(by omega), List.getElem?_eq_getElem _⟩
                      obtain ⟨y, hy⟩ : ∃ y, eb[j]? = some y := ⟨eb[j]'(by omega), List.getElem?_eq_getElem _⟩
                      obtain ⟨h1, h2, h3, h4⟩ := X6.out.2.2.2.2.2.2.1 j x y hx hy
                      obtain ⟨gx, cpx, p1, c1, hvx, hbx⟩ := OutIs.blk (X8.out.1.up hU.out) X8.out.2.1 hx
                      obtain ⟨gy, cpy, p2, c2, hvy, hby⟩ := OutIs.blk (X8.out.2.2.1.up hU.out) X8.out.2.2.2.1 hy
                      rw [X8.out.2.2.2.2.2.1] at hvx
                      rw [X8.out.2.2.2.2.2.2.1] at hvy
                      have e1 : px = some ⟨gx, 0, none⟩ := by injection hvx
                      have e2 : py = some ⟨gy, 0, none⟩ := by injection hvy
                      subst e1 e2
                      rw [← h1, ← h2, ← h3, ← h4] at hby
                      have ex := EntAt.of hbx
                      have ey := EntAt.of hby
                      obtain ⟨s, hs⟩ : ∃ s, stOf E zeroSta ((es.take j).map Ent.m) = s := ⟨_, rfl⟩
                      rw [hs] at ex ey
                      obtain ⟨m, hm⟩ : ∃ m, x.m = m := ⟨_, rfl⟩
                      obtain ⟨f, hf⟩ : ∃ f, x.f = f := ⟨_, rfl⟩
                      obtain ⟨k, hk⟩ : ∃ k, x.sent.length = k := ⟨_, rfl⟩
                      rw [hm, hf, hk] at ex ey
                      clear hL hlb hx hy h1 h2 h3 h4 hvx hvy hbx hby hs hm hf hk
                      go_upto_region 38 with (fail)
                      have kxm := ex.m.lift
                      have kxm0 := liftC ex.m.zero
                      have kxs := ex.s.lift
                      have kxs0 := liftC ex.s.zero
                      have kxf := liftC ex.f
                      have kxv := liftC ex.v
                      have kym := ey.m.lift
                      have kym0 := liftC ey.m.zero
                      have kys := ey.s.lift
                      have kys0 := liftC ey.s.zero
                      have kyf := liftC ey.f
                      have kyv := liftC ey.v
                      have hnm := ne_msg m
                      have hns := ne_sta s
                      have hnf : (f != f) = false := by simp
                      have hnk : ((k : Int) != (k : Int)) = false := by simp
                      clear ex ey
                      refine region_upL0 [0, 1, 2, 3, 4, 5, 6, 7, 8, 9, 10, 11, 12, 13, 14, 15, 16, 17, 18, 19, 20, 21, 22, 23, 24, 25, 26, 27, 28, 29, 30, 31, 32, 33, 34, 35, 36, 37, 38, 39, 40, 41, 42, 43, 44, 45, 46, 47, 48, 49, 50] [] 51 [] (by kernel_rfl) (by kernel_rfl) ?_
                      simp only [getOps, List.getElem?_cons_zero, List.getElem?_cons_succ]
                      iterate 12 (apply wpUp_step rfl rfl; (focus (intro W hU; go_simp; exact ⟨rfl, Up.refl _⟩)); go_simp)
                      iterate 11 (apply wpUp_yes rfl rfl; (focus (intro W hU; go_simp; exact ⟨rfl, Up.refl _⟩)); go_simp)
                      iterate 2 (apply wpUp_step rfl rfl; (focus (intro W hU; go_simp; exact ⟨rfl, Up.refl _⟩)); go_simp)
                      iterate 11 (apply wpUp_yes rfl rfl; (focus (intro W hU; go_simp; exact ⟨rfl, Up.refl _⟩)); go_simp)
                      iterate 2 (apply wpUp_step rfl rfl; (focus (intro W hU; go_simp; exact ⟨rfl, Up.refl _⟩)); go_simp)
                      iterate 13 (apply wpUp_yes rfl rfl; (focus (intro W hU; go_simp; exact ⟨rfl, Up.refl _⟩)); go_simp)
                      refine wpUp_nil fun W3 hW3 => ?_
                      refine wpNew_nil fun W4 hW4 => ?_
                      have HU := Lib.hid (hU.out.trans ((up_drew.trans hW3).trans hW4))
                      clear kxm kxm0 kxs kxs0 kxf kxv kym kym0 kys kys0 kyf kyv hnm hns hd hd1
                      go_wp2
                      exact ⟨⟨j + 1, by go_num, by omega, HU⟩, by simp [intOf]; omega⟩
                    · have hd : decide (j < L) = false := decide_eq_false hlt
                      have hk := Lib.hid (HC.out.2.2 wo hU.out)
                      go_wp2_with fail
                      refine hk.out.mono ?_
                      rintro e w11 ⟨hU11, n11, h1, h2, rfl⟩
                      have HU := Lib.hid (X8.out.2.2.2.2.2.2.2.trans (hU.out.trans hU11))
                      have hd2 : decide ((n11 : Int) ≥ 1) = true := decide_eq_true (by omega)
                      have hd3 : decide ((1 : Int) ≤ (n11 : Int)) = true := decide_eq_true (by omega)
                      clear hU11 hk
                      go_wp2
                      go_ret
                      exact ⟨HU.out, rfl⟩
            · obtain ⟨hj1, hne⟩ := hb1 rfl
              have hok := H.out.2.2.1
              have HN := Lib.hid (next_any hM.out hP.out HG.out.1 hok hne)
              clear hok hb1 hb2
              go_wp2_with fail
              refine HN.out.mono ?_
              rintro e w6 ⟨rfl, es3, Q3, M6, S6, P6, c6⟩
              have H6 := Lib.hid (And.intro M6 (And.intro P6 (And.intro c6 S6)))
              clear M6 P6 c6 S6 HN
              go_wp2
              exact ⟨⟨j + 1, es3, Q3, by go_num, by omega, Lib.hid (hr.out.chg H6.out.2.2.1 (fun k hk hn => hn (.inr hk))), Lib.hid H6.out.1, Lib.hid H6.out.2.1, Lib.hid (by
                rcases H6.out.2.2.2 with ⟨h1, h2, h3⟩ | ⟨h1, x, h2, h3⟩
                · left; rw [h2]; exact h1
                · right
                  have h4 := h3.length_eq
                  simp at h4
                  rcases hst.out with h5 | h5
                  · rw [h1] at h5; cases h5
                  · omega)⟩, by simp [intOf]; omega⟩
      · obtain ⟨hiN, hi4⟩ := hb rfl
        have hUw : Up w wo := X4.out.upw hM.out
        obtain ⟨htm, tb, ot, rfl, htc⟩ := (H.out.2.2.2.1.up hUw) i hiN
        obtain ⟨m, hm⟩ : ∃ m, msgAt tm i = m := ⟨_, rfl⟩
        obtain ⟨t, ht⟩ : ∃ t, tm i = t := ⟨_, rfl⟩
        have hm2 : m = ⟨((t % 30 : Nat) : Int), -1, i, 0, i, i, false⟩ := by rw [← hm, ← ht]; rfl
        rw [ht] at htm htc
        have HI := Lib.hid (And.intro hm (And.intro ht hm2))
        clear hm ht
        have hd : decide ((i : Int) < (n : Int)) = true := decide_eq_true (by omega)
        go_upto_region 11 with (fail)
        have hti : ((t : Int) % 30) = ((t % 30 : Nat) : Int) := by omega
        obtain ⟨B, hB⟩ : ∃ B, wo.heap.size = B := ⟨_, rfl⟩
        rw [hti, hB]
        refine wp_alloc1 (A := (⟨((t % 30 : Nat) : Int), -1, i, 0, i, i, false⟩ : Msg).list) fun W1 hU1 hs1 bX => ?_
        rw [hB] at hs1 bX
        rw [← hm2] at bX
        clear htc hd hti hm2
        have M1 : Mem (TurnA a q Va F) (fun k => KeepB b Vb u15 k ∨ k = B) w4 W1 a q E every es Q := Mem.off hM.out (Chg.of_up (S := fun _ => False) hU1) (fun _ h => h.elim) (fun _ _ h => h.elim) (fun k hk => hk.imp id (fun e => by omega)) (fun k hk => by
          rcases hk with h | h
          · have := hM.out.kl k h; have := hU1.1.size; omega
          · omega)
        have hU1s := alloc_up W1 m.list.toArray 43
        have row1 := hr.out.upM (hU1.trans hU1s)
        have bS := Blk.alloc W1 m.list 43
        have HX := Lib.hid (And.intro row1 (And.intro bS (And.intro (M1.upM hU1s) (bX.up hU1s))))
        have rX := bX.get
        have HB := Lib.hid (And.intro hB hs1)
        clear row1 bS hU1s bX hB hs1 M1
        go_wp2_with (at_builtin; refine wpList_appendM (K := [m]) rfl (.tmp 93) (.tmp 95) rfl rfl HX.out.1 rfl (srcBlkM HX.out.2.1) (by rw [allTo_length]; simp; omega) ?_)
        intro v' W2 hA
        have hsz : W1.heap.size ≤ (W1.alloc (.cells m.list.toArray 43)).heap.size := (alloc_up W1 m.list.toArray 43).1.size
        have M2 : Mem (TurnA a q Va F) (fun k => KeepB b Vb v' k ∨ k = B) w4 W2 a q E every es Q := Mem.off HX.out.2.2.1 hA.chg (fun k h => .inl (.inr h)) (fun k h1 h2 => by have := hnew.out k h2; omega) (fun k hk => by
          rcases hk with (h | h) | h
          · exact .inl (.inl (.inl h))
          · rcases hA.new k h with h | h
            · exact .inl (.inl (.inr h))
            · exact .inr h
          · exact .inl (.inr h)) (fun k hk => by
          rcases hk with (h | h) | h
          · exact Nat.lt_of_lt_of_le (HX.out.2.2.1.kl k (.inl (.inl h))) hA.chg.size
          · exact hA.row.block_lt k h
          · exact Nat.lt_of_lt_of_le (HX.out.2.2.1.kl k (.inr h)) hA.chg.size)
        have bX2 : Blk W2 B m.list := HX.out.2.2.2.chg hA.chg (fun h => by have := hr.out.block_lt B h; have := HB.out.1; omega)
        have hnew2 : ∀ k, sameBlock v' k → w4.heap.size ≤ k := fun k hk => by
          rcases hA.new k hk with h | h
          · exact hnew.out k h
          · exact Nat.le_trans HX.out.2.2.1.up.size h
        have row2 : RowM W2 v' (allTo tm (i + 1)) := by rw [allTo_succ, HI.out.1]; exact hA.row
        have X2 := Lib.hid (And.intro M2 (And.intro row2 hnew2))
        have HB2 := Lib.hid bX2
        clear M2 row2 hnew2 bX2 hsz hA rX HX
        go_upto_region 12 with (fail)
        go_cut [18, 19] from 72 to 133 (fun v18 v19 wx => ∃ (C : Nat) (lm : Msg) (s : Bool), v18 = .pointer (some ⟨C, 0, none⟩) ∧ v19 = .bool s ∧ Hid (Blk wx C lm.list) ∧ Hid (Up W2 wx) ∧ Hid (s = false → es = []) ∧ Hid (s = true → ∃ x, es.getLast? = some x ∧ x.m = lm))
        case first =>
          go_wp2_with fail
          refine (Mem.last X2.out.1).mono ?_
          rintro e w5 ⟨_, hU5, ⟨he, rfl⟩ | ⟨x, hx, rfl⟩⟩
          · have H5 := Lib.hid (And.intro hU5 he)
            clear hU5 he
            go_wp2
            go_meet
            case rel => exact ⟨_, zeroMsg, false, rfl, rfl, Lib.hid (Blk.alloc w5 zeroMsg.list 43), Lib.hid (H5.out.1.trans (alloc_up w5 zeroMsg.list.toArray 43)), Lib.hid (fun _ => H5.out.2), Lib.hid (fun h => by cases h)⟩
          · have H5 := Lib.hid (And.intro hU5 hx)
            clear hU5 hx
            go_wp2
            go_meet
            case rel => exact ⟨_, x.m, true, rfl, rfl, Lib.hid (Blk.alloc w5 x.m.list 43), Lib.hid (H5.out.1.trans (alloc_up w5 x.m.list.toArray 43)), Lib.hid (fun h => by cases h), Lib.hid (fun _ => ⟨x, H5.out.2, rfl⟩)⟩
        case rest =>
          obtain ⟨C, lm, s, rfl, rfl, hbL, hU6, hs0, hs1⟩ := hcut
          obtain ⟨w6, rfl⟩ : ∃ w6 : World, w6 = wc := ⟨_, rfl⟩
          go_upto_region 13 with (fail)
          have rX := (HB2.out.up hU6.out).get
          have rL := hbL.out.get
          go_cut [108] from 72 to 133 (fun v108 wx => ∃ bt : Bool, v108 = .bool bt ∧ Hid (Up W2 wx) ∧ Hid (bt = false → ∀ e ∈ es, befB e.m m = true) ∧ Hid (bt = true → es ≠ [] ∧ ∀ e, es.getLast? = some e → befB e.m m = false))
          case first =>
            cases s
            · clear rX rL
              go_wp2
              go_meet
              case rel => exact ⟨false, rfl, hU6, Lib.hid (fun _ e he => by have := hs0.out (by trivial); subst this; simp at he), Lib.hid (fun h => by cases h)⟩
            · go_wp2_with fail
              refine (before_any lm m _).mono ?_
              rintro e w7 ⟨rfl, hU7⟩
              clear rX rL
              have H7 := Lib.hid (hU6.out.trans hU7)
              clear hU7
              obtain ⟨x, hx, hxl⟩ := hs1.out (by trivial)
              have hd1 : befB lm m = true → ∀ e ∈ es, befB e.m m = true := fun h => hP.out.lastBef hx (by rw [hxl]; exact h)
              have hd2 : befB lm m = false → es ≠ [] ∧ ∀ e, es.getLast? = some e → befB e.m m = false := fun h => by
                refine ⟨fun he => ?_, fun e he => ?_⟩
                · rw [he] at hx; cases hx
                · rw [hx] at he; cases he; rw [hxl]; exact h
              have hd := Lib.hid (And.intro hd1 hd2)
              clear hd1 hd2
              clear hx hxl
              obtain ⟨bf, hbf⟩ : ∃ bf, befB lm m = bf := ⟨_, rfl⟩
              rw [hbf] at hd ⊢
              clear hbf
              go_wp2
              go_meet
              case rel => exact ⟨!bf, rfl, H7, Lib.hid (fun h => hd.out.1 (by simpa using h)), Lib.hid (fun h => hd.out.2 (by simpa using h))⟩
          case rest =>
            obtain ⟨bt, rfl, hU7, hb0, hb1⟩ := hcut
            obtain ⟨w7, rfl⟩ : ∃ w7 : World, w7 = wc := ⟨_, rfl⟩
            clear rX rL hs0 hs1 hbL hU6
            go_upto_if 108 with fail
            go_cut [20, 21] from 72 to 133 (fun _ _ wx => ∃ es' Q', Hid (Mem (TurnA a q Va F) (fun k => KeepB b Vb v' k ∨ k = B) w4 wx a q E every es' Q') ∧ Hid (Plain (allTo tm i) es' Q') ∧ Hid (∀ e ∈ es', befB e.m m = true) ∧ Hid (Chg (fun k => ¬ (KeepB b Vb v' k ∨ k = B)) W2 wx))
            case first =>
              cases bt
              · go_wp2
                go_meet
                case rel => exact ⟨es, Q, Lib.hid (X2.out.1.upM hU7.out), hP, Lib.hid (hb0.out (by trivial)), Lib.hid (Chg.of_up hU7.out)⟩
              · have rX := (HB2.out.up hU7.out).get
                obtain ⟨hne, hlast⟩ := hb1.out (by trivial)
                go_wp2_with fail
                refine (Mem.back (X2.out.1.upM hU7.out) hP.out H.out.2.2.1 hlast hne).mono ?_
                rintro e w8 ⟨ov, kk, xs, rfl, hat, hlt, hMK, hc8, hown, hout, hnewo⟩
                have g40 : Good (allTo tm i) := good_all tm hi40
                have hl40 := hP.out.len g40
                obtain ⟨g, cap, rfl⟩ := hown.pos (by omega)
                obtain ⟨N, hN⟩ : ∃ N, N = es.length - kk := ⟨_, rfl⟩
                have M8 := hMK (fun k => (KeepB b Vb v' k ∨ k = B) ∨ sameBlock (.slice (some ⟨g, 0, none⟩) (es.length - kk) cap) k) (fun k h => h)
                have H8 := Lib.hid (And.intro M8 (And.intro hown (And.intro hout (And.intro hlt (And.intro hN (And.intro hat ((Chg.of_up hU7.out).trans hc8 (fun _ _ h => h))))))))
                have HG := Lib.hid (And.intro g40 hl40)
                have hN40 : N ≤ 40 := by omega
                clear M8 hown hout hlt hat hc8 hMK hnewo g40 hl40 hne hlast rX
                rw [← hN]
                clear hN
                go_wp2_with fail
                go_loopw [21] (fun x wz => ∃ k : Nat, x = .int .i64 k ∧ k ≤ N ∧ Hid (Mem (TurnA a q Va F) (fun k => (KeepB b Vb v' k ∨ k = B) ∨ sameBlock (.slice (some ⟨g, 0, none⟩) (es.length - kk) cap) k) w4 wz a q E every (es.take kk) ((es.drop (es.length - k)).map Ent.m ++ Q)) ∧ Hid (Chg (fun k => ¬ ((KeepB b Vb v' k ∨ k = B) ∨ sameBlock (.slice (some ⟨g, 0, none⟩) (es.length - kk) cap) k)) w8 wz)) (fun x _ => N - (intOf x).toNat)
                case atStart =>
                  exact ⟨0, rfl, Nat.zero_le _, Lib.hid (by rw [Nat.sub_zero, List.drop_of_length_le (Nat.le_refl _)]; exact H8.out.1), Lib.hid (Chg.refl _ _)⟩
                case round =>
                  obtain ⟨k, rfl, hkN, hMk, hck⟩ := hrel
                  obtain ⟨w9, rfl⟩ : ∃ w9 : World, w9 = wr := ⟨_, rfl⟩
                  by_cases hlt : k < N
                  · obtain ⟨j, hj⟩ : ∃ j, j = es.length - 1 - k := ⟨_, rfl⟩
                    have hNe := H8.out.2.2.2.2.1
                    have hkk := H8.out.2.2.2.1
                    have hjl : j < es.length := by omega
                    obtain ⟨e, he⟩ : ∃ e, es[j]? = some e := ⟨es[j], by simp [hjl]⟩
                    obtain ⟨g', cap', hv, hbe⟩ := BackOut.blk (H8.out.2.1.chg hck.out (fun q hq hn => hn (.inr hq))) H8.out.2.2.1 (show kk ≤ j by omega) he
                    have hgg : g' = g := by injection hv with h1 _ _; injection h1 with h1; injection h1 with h1 _ _; exact h1.symm
                    rw [hgg, show es.length - 1 - j = k by omega] at hbe
                    obtain ⟨hmo, hma, t', ht', htl⟩ := HG.out.1.ok e.m (hP.out.memE (List.mem_of_getElem? he))
                    have hPu := (Mem.push (m := e.m) hMk.out (by have := gone_len (j := es.length - k) hP.out HG.out.1; omega) ht' (by omega) (fun y hy hyy => gone_no hP.out HG.out.1 he y (by rw [show j + 1 = es.length - k by omega]; exact hy) hyy.2))
                    have HE := Lib.hid (And.intro he (And.intro hj (And.intro hjl hPu)))
                    have rE := hbe.get
                    have rE0 := hbe.zero
                    have hd : decide (k < N) = true := decide_eq_true hlt
                    have hd1 : decide ((k : Int) < (N : Int)) = true := decide_eq_true (by omega)
                    clear hbe hv hgg hj hjl he hPu ht' htl hNe hkk hmo hma
                    go_wp2_with fail
                    refine HE.out.2.2.2.mono ?_
                    rintro e' w10 ⟨rfl, M10, c10⟩
                    have H10 := Lib.hid (And.intro M10 (hck.out.trans c10 (fun _ _ h => h)))
                    clear M10 c10 rE rE0 hd hd1
                    go_wp2
                    exact ⟨⟨k + 1, by go_num, by omega, Lib.hid (by
                      have hje := HE.out.2.1
                      have hjl := HE.out.2.2.1
                      have hNe := H8.out.2.2.2.2.1
                      have h1 : es.length - (k + 1) = j := by omega
                      have h2 : j + 1 = es.length - k := by omega
                      rw [h1, gone_cons HE.out.1, h2]
                      exact H10.out.1), Lib.hid H10.out.2⟩, by simp [intOf]; omega⟩
                  · have hkk : k = N := by omega
                    have hd : decide (k < N) = false := decide_eq_false hlt
                    go_wp2
                    go_meet
                    case rel => exact ⟨es.take kk, (es.drop kk).map Ent.m ++ Q, Lib.hid (by
                      have h1 := hMk.out
                      have h2 := H8.out.2.2.2.2.1
                      have h3 := H8.out.2.2.2.1
                      rw [hkk, h2, show es.length - (es.length - kk) = kk by omega] at h1
                      exact h1.shrink (fun k hk => .inl hk)), Lib.hid (hP.out.back (List.Perm.refl _) H8.out.2.2.2.1), Lib.hid (hP.out.backBef H8.out.2.2.2.2.2.1), Lib.hid (H8.out.2.2.2.2.2.2.trans hck.out (fun k _ hn hk => hn (.inl hk)))⟩
            case rest =>
              obtain ⟨es2, Q2, hM2, hP2, hb2, hc2⟩ := hcut
              obtain ⟨w8, rfl⟩ : ∃ w8 : World, w8 = wc := ⟨_, rfl⟩
              have rX := (HB2.out.chg hc2.out (fun hn => hn (.inr rfl))).get
              have g40 : Good (allTo tm i) := good_all tm hi40
              have hl40 := hP2.out.len g40
              have hPu := (Mem.push (m := m) (t := t % 30) hM2.out (by omega) (by rw [HI.out.2.2]) (by omega) (fun y hy hyy => all_no (hP2.out.mem hy) (by rw [hyy.2, HI.out.2.2])))
              have HPu := Lib.hid hPu
              clear hPu hb0 hb1 hU7 g40 hl40
              go_wp2_with fail
              refine HPu.out.mono ?_
              rintro e w9 ⟨rfl, M9, c9⟩
              have P9 : Plain (allTo tm (i + 1)) es2 (m :: Q2) := by rw [allTo_succ, HI.out.1]; exact hP2.out.add (List.Perm.refl _) hb2.out
              have H9 := Lib.hid (And.intro M9 (And.intro P9 (hc2.out.trans c9 (fun _ _ h => h))))
              clear M9 P9 c9 rX
              go_upto_region 20 with (fail)
              by_cases h3 : i % 3 = 2
              · have h3i : (i : Int) % 3 = 2 := by omega
                have h3t : Int.tmod (i : Int) 3 = 2 := by rw [Int.tmod_eq_emod_of_nonneg (by omega)]; exact h3i
                go_wp2_with fail
                have hok := H.out.2.2.1
                refine (next_any H9.out.1 H9.out.2.1 (good_all tm (by omega)) hok (by simp)).mono ?_
                rintro e w10 ⟨rfl, es3, Q3, M10, _, P10, c10⟩
                have H10 := Lib.hid (And.intro M10 (And.intro P10 (H9.out.2.2.trans c10 (fun _ _ h => h))))
                clear M10 P10 c10 h3i h3t hok
                go_wp2
                exact ⟨⟨i + 1, es3, Q3, by go_num, by omega, by omega, Lib.hid (X2.out.2.1.chg H10.out.2.2 (fun k hk hn => hn (.inl (.inr hk)))), Lib.hid (H10.out.1.shrink (fun k hk => .inl hk)), Lib.hid H10.out.2.1, Lib.hid X2.out.2.2⟩, by simp [intOf]; omega⟩
              · have h3i : ((i : Int) % 3 == 2) = false := by rw [beq_eq_false_iff_ne]; omega
                have h3t : (Int.tmod (i : Int) 3 == 2) = false := by rw [Int.tmod_eq_emod_of_nonneg (by omega)]; exact h3i
                go_wp2
                exact ⟨⟨i + 1, es2, m :: Q2, by go_num, by omega, by omega, Lib.hid (X2.out.2.1.chg H9.out.2.2 (fun k hk hn => hn (.inl (.inr hk)))), Lib.hid (H9.out.1.shrink (fun k hk => .inl hk)), Lib.hid H9.out.2.1, Lib.hid X2.out.2.2⟩, by simp [intOf]; omega⟩
end Go.Proofs.YtalmjdlcogdpmaaGreatDoor
