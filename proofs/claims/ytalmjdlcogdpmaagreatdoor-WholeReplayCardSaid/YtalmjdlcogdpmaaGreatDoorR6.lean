/- Contracts and plain laws for the statement of this claim; no condition. Here: Stores and appends in the tails of the region laws. Rows of messages in memory: reading and writing one. The contract of vm.Sends, at what a handler sent. What a log is in memory; how its facts live on. A log that may be written; its readers: none, Last, State, due, Kept, may. log.New. The log and the queue together: what holds between two steps of WholeReplay: plain part. log.Log.run, where nothing is kept. -/
import Derived.Test.YtalmjdlcogdpmaaGreatDoorR5
import Derived.Test.YtalmjdlcogdpmaaGreatDoorR1
import Derived.Deep.CutRange
import Derived.Deep.Cut
import Derived.Deep.CutBlock
set_option linter.unusedVariables false
set_option linter.unusedSimpArgs false

namespace Go.Proofs.YtalmjdlcogdpmaaGreatDoor
open Go Go.RowKit
section
variable {P : Program} {ops : Array Oper} {rest : List Oper} {o : Oper} {a : Act} {Q : Act → World → Prop} {w : World} {S : Nat → Prop}
theorem run_exec_store (ty : TypeId) (x y : Operand) (ho : o.op = .store ty x y) (b off : Nat) (cells : List Value) (hx : a.eval x = .pointer (some ⟨b, off, none⟩)) (hy : a.eval y = .agg cells.toArray)
    (ht : w.there b off cells.length) (hi : (P.info? ty).map (·.size) = some cells.length) (h1 : ∀ u ∈ cells, u.oneCell' = true) : (execOp a.eval o).run P w = .ok .skip (w.setCells b off cells) := by
  unfold execOp
  have := run_storeVar_mid (P := P) w b off ty cells.toArray (by simpa using ht) (by simpa using hi) (by rw [Array.all_eq_true_iff_forall_mem]; intro x hx; exact h1 x (by simpa using hx))
  simp only [ho, hx, hy, Instr.storeAt, Instr.sureAddr, Sem.run_bind, Sem.run_pure, Result.andThen_ok, this]
theorem wpTailS_store (hgd : o.guard = none) (ty : TypeId) (x y : Operand) (ho : o.op = .store ty x y) (b off : Nat) (cells : List Value) (hx : a.eval x = .pointer (some ⟨b, off, none⟩)) (hy : a.eval y = .agg cells.toArray)
    (ht : w.there b off cells.length) (hi : (P.info? ty).map (·.size) = some cells.length) (h1 : ∀ u ∈ cells, u.oneCell' = true) (hS : S b)
    (h : wpTailS (chgPre S) P ops Q rest (a.put o.dst undef) (w.setCells b off cells)) : wpTailS (chgPre S) P ops Q (o :: rest) a w := by
  refine wpTailS_step hgd fun K hK => ?_
  rw [run_exec_store ty x y ho b off cells hx hy ht hi h1, sUpon_skip]
  exact ⟨Chg.setCells (Or.inl hS) _ _ (Chg.refl _ _), hK _ _ h⟩
theorem wpTailS_append (hgd : o.guard = none) (s x : Operand) (t : TypeId)
    (ho : o.op = .call { callee := .builtin .append, args := #[s, x], argTypes := #[t, t] })
    (e : TypeId) (i : TypeInfo) (z : Value) (size bytes : Nat) (ht : P.underlying t = some (.slice e)) (hi : P.info? e = some i) (hz : i.zero = some z)
    (hsize : i.size = size) (hby : i.bytes = bytes) (hzs : z.cells.size = size) (hsz : 0 < size)
    (v : Value) (n : Nat) (xs : List Value) (hs : a.eval s = v) (hown : OwnR w e size v n xs) (hS : ∀ k, sameBlock v k → S k)
    (xv : Value) (m : Nat) (news : List Value) (hx : a.eval x = xv) (hl : news.length = m * size) (hnews : SrcR w xv m news) (h1 : ∀ u ∈ news, u.oneCell' = true)
    (h63 : n + m ≤ maxLen) (hbytes : (n + m) * bytes ≤ 140737488355328)
    (h : ∀ v' w', OwnR w' e size v' (n + m) (xs ++ news) → Chg (sameBlock v) w w' → (∀ k, sameBlock v' k → sameBlock v k ∨ w.heap.size ≤ k) → wpTailS (chgPre S) P ops Q rest (a.put o.dst v') w') : wpTailS (chgPre S) P ops Q (o :: rest) a w := by
  refine wpTailS_step hgd fun K hK => ?_
  obtain ⟨v', w', hr, h2, h3, h4⟩ := run_append_chg (P := P) t o.type e i z size bytes ht hi hz hsize hby hzs hsz v n xs hown xv m news hl hnews h1 h63 hbytes
  have : (execOp a.eval o).run P w = .ok (.value v') w' := by
    unfold execOp
    simp only [ho, resolve, invoke, builtin, Sem.run_bind, Sem.run_pure, Result.andThen_ok, List.map_toArray, List.map_cons, List.map_nil, hs, hx, hr]
  rw [this, sUpon_value]
  exact ⟨h3.mono fun k _ hk => hS k hk, hK _ _ (h v' w' h2 h3 h4)⟩
end
/-- A slice's cell is written. -/
theorem OwnR.set {w : World} {e : TypeId} {size : Nat} {v : Value} {n : Nat} {xs : List Value} (h : OwnR w e size v n xs) {g : Nat} (hg : sameBlock v g) {j : Nat} (hj : j < xs.length) (u : Value) : OwnR (w.setCell ⟨g, j, none⟩ u) e size v n (xs.set j u) := by
  refine ⟨by rw [List.length_set]; exact h.1, ?_⟩
  rcases h.2 with ⟨rfl, _⟩ | ⟨g', cap, cur, rfl, hgg, h1, h2, h3, htake⟩
  · simp [sameBlock, Value.ownBlock] at hg
  · simp [sameBlock, Value.ownBlock] at hg
    subst hg
    refine .inr ⟨g', cap, cur.setIfInBounds j u, rfl, ?_, h1, h2, by simpa using h3, ?_⟩
    · show (w.heap.modify g' _)[g']? = _
      obtain ⟨hlt, hk'⟩ := Array.getElem?_eq_some_iff.1 hgg
      rw [Array.getElem?_eq_getElem (by rw [Array.size_modify]; exact hlt), Array.getElem_modify_self, hk']
      rfl
    · rw [← htake]
      simp only [Array.toList_setIfInBounds]
      rw [List.take_set]
theorem OwnR.set_same {w : World} {e : TypeId} {size : Nat} {v : Value} {n : Nat} {xs : List Value} (h : OwnR w e size v n xs) {g : Nat} (hg : sameBlock v g) {j : Nat} {u : Value} (hj : xs[j]? = some u) : OwnR (w.setCell ⟨g, j, none⟩ u) e size v n xs := by
  have hlt := (List.getElem?_eq_some_iff.1 hj).1
  have := h.set hg hlt u
  rwa [show xs.set j u = xs by
    apply List.ext_getElem? 
    intro k
    rw [List.getElem?_set]
    split
    · rename_i e; subst e; rw [hj]
    · rfl] at this
/-- Many of its cells are written. -/
theorem OwnR.sets {e : TypeId} {size : Nat} {v : Value} {n g : Nat} (hg : sameBlock v g) : ∀ (vs : List Value) {w : World} {xs : List Value} (o : Nat), OwnR w e size v n xs → o + vs.length ≤ xs.length → OwnR (w.setCells g o vs) e size v n (setL xs o vs)
  | [], _, _, _, h, _ => h
  | u :: r, w, xs, o, h, hl => by
    simp only [List.length_cons] at hl
    exact OwnR.sets hg r (o + 1) (h.set hg (by omega) u) (by rw [List.length_set]; omega)
theorem setL_length : ∀ (vs xs : List Value) (o : Nat), (setL xs o vs).length = xs.length
  | [], _, _ => rfl
  | u :: r, xs, o => by rw [setL, setL_length r, List.length_set]
theorem setL_out : ∀ (vs xs : List Value) (o i : Nat), (i < o ∨ o + vs.length ≤ i) → (setL xs o vs)[i]? = xs[i]?
  | [], _, _, _, _ => rfl
  | u :: r, xs, o, i, h => by
    simp only [List.length_cons] at h
    rw [setL, setL_out r _ _ _ (by omega), List.getElem?_set_ne (by omega)]
theorem setL_in : ∀ (vs xs : List Value) (o r : Nat), r < vs.length → o + vs.length ≤ xs.length → (setL xs o vs)[o + r]? = vs[r]?
  | [], _, _, _, h, _ => by simp at h
  | u :: vs, xs, o, 0, _, hl => by
    simp only [List.length_cons] at hl
    rw [setL, setL_out vs _ _ _ (by omega), Nat.add_zero, List.getElem?_set_self (by omega)]; rfl
  | u :: vs, xs, o, r + 1, h, hl => by
    simp only [List.length_cons] at h hl
    rw [setL, show o + (r + 1) = (o + 1) + r by omega, setL_in vs _ (o + 1) r (by omega) (by rw [List.length_set]; omega)]; rfl
end Go.Proofs.YtalmjdlcogdpmaaGreatDoor

namespace Go.Proofs.YtalmjdlcogdpmaaGreatDoor
open Go.RowKit

/-- Rows of structs: a cell of the i-th one. -/
theorem flat_get {α : Type} (f : α → List Value) (k : Nat) (hk : ∀ x, (f x).length = k) : ∀ (l : List α) (i r : Nat), r < k → (l.flatMap f)[i * k + r]? = (l[i]?).bind fun x => (f x)[r]?
  | [], i, r, _ => by simp
  | x :: l, 0, r, hr => by
    rw [List.flatMap_cons, Nat.zero_mul, Nat.zero_add, List.getElem?_append_left (by rw [hk]; exact hr)]; rfl
  | x :: l, i + 1, r, hr => by
    rw [List.flatMap_cons, List.getElem?_append_right (by rw [hk, Nat.succ_mul]; omega), hk, show (i + 1) * k + r - k = i * k + r by rw [Nat.succ_mul]; omega, flat_get f k hk l i r hr]
    simp
theorem flat_len {α : Type} (f : α → List Value) (k : Nat) (hk : ∀ x, (f x).length = k) : ∀ (l : List α), (l.flatMap f).length = l.length * k
  | [] => by simp
  | x :: l => by rw [List.flatMap_cons, List.length_append, hk, flat_len f k hk l, List.length_cons, Nat.succ_mul]; omega

abbrev Msg.list (m : Msg) : List Value := [.int .i64 m.t, .int .i64 m.f, .int .i64 m.s, .int .i64 m.to, .int .i64 m.v, .int .i64 m.u, .bool m.an]
def msgCells (l : List Msg) : List Value := l.flatMap Msg.list
theorem msgCells_snoc (l : List Msg) (m : Msg) : msgCells (l ++ [m]) = msgCells l ++ m.list := by simp [msgCells]
theorem msgCells_length (l : List Msg) : (msgCells l).length = l.length * 7 := flat_len _ 7 (fun _ => rfl) l
theorem infoMsg : (Tryz.prog.info? 43).map (fun i => (i.zero, i.size, i.bytes)) = some (some (.agg #[.int .i64 0, .int .i64 0, .int .i64 0, .int .i64 0, .int .i64 0, .int .i64 0, .bool false]), 7, 56) := by kernel_rfl
theorem infoMsgN : (Tryz.prog.info? 43).map (·.size) = some 7 := by kernel_rfl
def zeroMsg : Msg := ⟨0, 0, 0, 0, 0, 0, false⟩
theorem msg_one (m : Msg) : ∀ u ∈ m.list, u.oneCell' = true := by intro u hu; simp [Msg.list] at hu; rcases hu with rfl | rfl | rfl | rfl | rfl | rfl | rfl <;> rfl
theorem msgs_one (l : List Msg) : ∀ u ∈ msgCells l, u.oneCell' = true := by
  intro u hu
  obtain ⟨m, _, hm⟩ := List.mem_flatMap.1 hu
  exact msg_one m u hm
theorem OwnR.form {w : World} {e : TypeId} {size n : Nat} {v : Value} {xs : List Value} (h : OwnR w e size v n xs) : ∃ p cap, v = .slice p n cap := by
  rcases h.is with ⟨h1, h2⟩ | ⟨g, cap, h1, _⟩
  · exact ⟨none, 0, by rw [h1, h2]⟩
  · exact ⟨_, _, h1⟩
theorem BlkAt.up {w w' : World} {b o : Nat} {cs : List Value} (h : BlkAt w b o cs) (hu : Up w w') : BlkAt w' b o cs := ⟨fun i hi => cell_up hu (h.get i hi)⟩
theorem BlkAt.zero {w : World} {b o : Nat} {c : Value} {cs : List Value} (h : BlkAt w b o (c :: cs)) : w.cell? ⟨b, o, none⟩ = some c := h.get 0 (by simp)
theorem BlkAt.lift {w : World} {b o : Nat} {cs : List Value} (h : BlkAt w b o cs) : ∀ W, Up w.drew W → ∀ i, i < cs.length → W.cell? ⟨b, o + i, none⟩ = some (cs.getD i undef) := fun _ hW => (h.up (up_drew.trans hW)).get
theorem liftC {W0 : World} {a : Addr} {v : Value} (h : W0.cell? a = some v) : ∀ W, Up W0.drew W → W.cell? a = some v := fun _ hW => cell_up (up_drew.trans hW) h

/-! ### A row of messages -/
theorem msgCells_at {L : List Msg} {i r : Nat} {m : Msg} (h : L[i]? = some m) (hr : r < 7) : (msgCells L)[i * 7 + r]? = m.list[r]? := by
  rw [msgCells, flat_get _ 7 (fun _ => rfl) _ _ _ hr, h]; rfl
theorem setL_msg {L : List Msg} {i : Nat} (hi : i < L.length) (x : Msg) : setL (msgCells L) (i * 7) x.list = msgCells (L.set i x) := by
  apply List.ext_getElem?
  intro k
  have hl : (msgCells L).length = L.length * 7 := msgCells_length L
  have hx : x.list.length = 7 := rfl
  rcases Nat.lt_or_ge k (L.length * 7) with hk | hk
  · obtain ⟨q, r, hr, rfl⟩ : ∃ q r, r < 7 ∧ k = q * 7 + r := ⟨k / 7, k % 7, Nat.mod_lt _ (by omega), by omega⟩
    have hq : q < L.length := by omega
    by_cases e : q = i
    · subst e
      rw [setL_in _ _ _ _ (by omega) (by omega), msgCells_at (m := x) (by simp [hq]) hr]
    · rw [setL_out _ _ _ _ (by omega), msgCells_at (m := L[q]) (by simp [hq]) hr, msgCells_at (m := L[q]) (by rw [List.getElem?_set_ne (fun h => e h.symm)]; simp [hq]) hr]
  · rw [List.getElem?_eq_none (by rw [setL_length]; omega), List.getElem?_eq_none (by rw [msgCells_length, List.length_set]; omega)]
section
variable {W W' : World} {g n cap : Nat} {L : List Msg}
/-- A slice value at a block's head. -/
abbrev slc (g n cap : Nat) : Value := .slice (some ⟨g, 0, none⟩) n cap
theorem same_slc {g n cap k : Nat} : sameBlock (slc g n cap) k ↔ k = g := by
  simp [sameBlock, Value.ownBlock, eq_comm]
/-- A row of messages that is the caller's own. -/
abbrev RowM (W : World) (v : Value) (L : List Msg) : Prop := OwnR W 43 7 v L.length (msgCells L)
theorem OwnR.atM {v : Value} (h : RowM W v L) {i : Nat} {m : Msg} (hi : L[i]? = some m) : ∃ g cap, v = slc g L.length cap ∧ BlkAt W g (i * 7) m.list := by
  obtain ⟨g, cap, hv⟩ := h.pos (by have := (List.getElem?_eq_some_iff.1 hi).1; omega)
  refine ⟨g, cap, hv, ⟨fun r hr => ?_⟩⟩
  have hr : r < 7 := hr
  refine h.cell (g := g) (by rw [hv]; rfl) (i * 7 + r) _ ?_
  rw [msgCells_at hi hr]
  have : m.list.length = 7 := rfl
  rw [List.getD_eq_getElem?_getD, List.getElem?_eq_getElem (by omega)]; rfl
theorem OwnR.blkM (h : RowM W (slc g n cap) L) {i : Nat} {m : Msg} (hi : L[i]? = some m) : BlkAt W g (i * 7) m.list := by
  obtain ⟨g', cap', hv, hb⟩ := h.atM hi
  injection hv with h1 h2 h3
  injection h1 with h1
  injection h1 with h1 _ _
  subst h1
  exact hb
theorem OwnR.lenM (h : RowM W (slc g n cap) L) : n = L.length := by
  obtain ⟨p, c, hv⟩ := OwnR.form h
  injection hv
theorem OwnR.setM (h : RowM W (slc g n cap) L) {i : Nat} (hi : i < L.length) (x : Msg) : RowM (W.setCells g (i * 7) x.list) (slc g n cap) (L.set i x) := by
  have hl : (msgCells L).length = L.length * 7 := msgCells_length L
  have := OwnR.sets (g := g) (v := slc g n cap) rfl x.list (i * 7) h (by rw [hl]; show i * 7 + 7 ≤ _; omega)
  rw [setL_msg hi] at this
  unfold RowM
  rw [List.length_set]
  exact this
theorem OwnR.thereM (h : RowM W (slc g n cap) L) {i : Nat} (hi : i < L.length) : W.there g (i * 7) 7 := fun r hr => by
  have hb := h.blkM (List.getElem?_eq_getElem hi)
  exact ⟨by rw [hb.get r hr]; rfl, h.frozen (g := g) rfl _⟩
theorem OwnR.setC (x : Msg) (i : Nat) : Chg (· = g) W (W.setCells g (i * 7) x.list) := Chg.setCells (S := (· = g)) (Or.inl rfl) _ _ (Chg.refl _ W)
theorem OwnR.upM {v : Value} (h : RowM W v L) (hu : Up W W') : RowM W' v L := OwnR.up h hu
theorem OwnR.chgM {v : Value} {S : Nat → Prop} (h : RowM W v L) (hc : Chg S W W') (hn : ∀ k, sameBlock v k → ¬ S k) : RowM W' v L := OwnR.chg h hc hn
theorem msg_all (m : Msg) : m.list.toArray.all (·.oneCell') = true := all_oneCell_toArray (msg_one m)
/-- A message is stored into a row, at the end of a region. -/
theorem wpList_storeM {ops : Array Oper} {rest : List Oper} {o : Oper} {a : Act} {Q : Exit → Act → World → Prop} (hgd : o.guard = none) (x y : Operand) (ho : o.op = .store 43 x y) (m : Msg) (i : Nat)
    (hr : RowM W (slc g n cap) L) (hi : i < L.length) (hx : a.eval x = .pointer (some ⟨g, i * 7, none⟩)) (hy : a.eval y = m.val)
    (h : ∀ W', RowM W' (slc g n cap) (L.set i m) → Chg (· = g) W W' → wpList Tryz.prog ops Q rest (a.put o.dst undef) W') : wpList Tryz.prog ops Q (o :: rest) a W :=
  wpList_store_mid hgd _ x y ho g (i * 7) m.list.toArray hx hy (hr.thereM hi) infoMsgN (msg_all m) (h _ (hr.setM hi m) (OwnR.setC m i))
theorem wpTailS_storeM {S : Nat → Prop} {ops : Array Oper} {rest : List Oper} {o : Oper} {a : Act} {Q : Act → World → Prop} (hgd : o.guard = none) (x y : Operand) (ho : o.op = .store 43 x y) (m : Msg) (i : Nat)
    (hr : RowM W (slc g n cap) L) (hi : i < L.length) (hx : a.eval x = .pointer (some ⟨g, i * 7, none⟩)) (hy : a.eval y = m.val) (hS : S g)
    (h : ∀ W', RowM W' (slc g n cap) (L.set i m) → Chg (· = g) W W' → wpTailS (chgPre S) Tryz.prog ops Q rest (a.put o.dst undef) W') : wpTailS (chgPre S) Tryz.prog ops Q (o :: rest) a W :=
  wpTailS_store hgd _ x y ho g (i * 7) m.list hx hy (hr.thereM hi) infoMsgN (msg_one m) hS (h _ (hr.setM hi m) (OwnR.setC m i))
end
end Go.Proofs.YtalmjdlcogdpmaaGreatDoor

namespace Go.Proofs.YtalmjdlcogdpmaaGreatDoor
open Go.RowKit
attribute [local go_sem] upUpon_value upUpon_enter upUpon_skip upUpon_row ucUpon_value ucUpon_skip ucUpon_enter ucUpon_row

/-- What a handler sent may be sent. -/
def OutOk (E : Env) (x : Out) : Prop := 0 ≤ x.k ∧ x.k < E.nl ∧ 0 ≤ x.d ∧ x.d ≤ 4611686018427387903 - E.m.t
theorem addE_zero {t d : Int} (h : addE t d = 0) : 0 ≤ d ∧ d ≤ 4611686018427387903 - t := by
  unfold addE at h; split at h
  · rename_i h1
    split at h
    · cases h
    · exact ⟨h1.2, by omega⟩
  · cases h
theorem step1_outs {E : Env} {x : Ins} {s s' : St} (h : ∀ y ∈ s.o, OutOk E y) (hs : step1 E x s = .ok s') : ∀ y ∈ s'.o, OutOk E y := by
  unfold step1 at hs
  split at hs
  case h_13 =>
    split at hs
    · injection hs with hs; subst hs; exact h
    · rename_i h0
      split at hs
      · cases hs
      · rename_i hf
        injection hs with hs; subst hs
        intro y hy
        rcases List.mem_append.1 hy with hy | hy
        · exact h y hy
        · have hy' : y = ⟨pickK (s.r x.a.toNat) E.nl, s.r x.b.toNat, s.r x.c.toNat⟩ := by simpa using hy
          subst hy'
          have hf' : sendF E.l E.nl E.m.t (s.r x.a.toNat) (s.r x.b.toNat) = 0 := by simpa using hf
          unfold sendF at hf'
          have hk := pick_lt (r := s.r x.a.toNat) (show 0 < E.nl by omega)
          split at hf'
          · cases hf'
          · have := addE_zero hf'
            exact ⟨by show (0 : Int) ≤ (pickK _ _ : Nat); omega, by show ((pickK _ _ : Nat) : Int) < _; omega, this.1, this.2⟩
  case h_12 => split at hs <;> (injection hs with hs; subst hs; exact h)
  all_goals (injection hs with hs; subst hs; exact h)
theorem runF_outs {E : Env} : ∀ (n : Nat) (s t : St), (∀ y ∈ s.o, OutOk E y) → runF E n s = .ok t → ∀ y ∈ t.o, OutOk E y
  | 0, s, t, hs, h => by injection h with h; subst h; exact hs
  | n + 1, s, t, hs, h => by
    by_cases ha : s.a < E.np
    · rw [runF, if_pos ha] at h
      rcases hst : step1 E (E.p s.a.toNat) { s with a := s.a + 1 } with f | s2
      · rw [hst] at h; cases h
      · rw [hst] at h
        exact runF_outs n s2 t (step1_outs (s := { s with a := s.a + 1 }) hs hst) h
    · rw [runF_end ha] at h; injection h with h; subst h; exact hs
theorem vmRun_outs (E : Env) (s : Sta) : ∀ y ∈ (vmRun E s).o, OutOk E y := by
  unfold vmRun
  split
  · rename_i t ht; exact runF_outs 4096 (startOf s) t (by intro y hy; simp [startOf] at hy) ht
  · intro y hy; simp at hy

def sentMsg (E : Env) (s : Sta) (i : Nat) (x : Out) : Msg := ⟨E.m.t + x.d, E.me, s.n + i, (E.l x.k.toNat).to, x.v, i, false⟩
def sentN (E : Env) (s : Sta) (o : List Out) (k : Nat) : List Msg := (List.range k).map fun i => sentMsg E s i (o.getD i ⟨0, 0, 0⟩)
theorem sentN_succ (E : Env) (s : Sta) (o : List Out) (k : Nat) : sentN E s o (k + 1) = sentN E s o k ++ [sentMsg E s k (o.getD k ⟨0, 0, 0⟩)] := by
  unfold sentN; rw [List.range_succ, List.map_append]; rfl
theorem sentN_length (E : Env) (s : Sta) (o : List Out) (k : Nat) : (sentN E s o k).length = k := by simp [sentN]
/-- A fresh slice of one struct. -/
theorem srcBlk {W : World} {b : Nat} {cs : List Value} (h : Blk W b cs) : SrcR W (.slice (some ⟨b, 0, none⟩) 1 1) 1 cs :=
  .inr ⟨_, 1, rfl, fun j u hj => by
    have := h.at hj
    have hadd : (⟨b, 0, none⟩ : Addr).add j = ⟨b, j, none⟩ := by unfold Addr.add; split <;> simp_all
    rw [hadd]; exact this⟩

set_option maxRecDepth 100000 in
set_option maxHeartbeats 2000000 in
theorem sends_any (vp : Value) (pl : Option Addr) (cl : Nat) (E : Env) (s : Sta) (hs : GoodSta s) (ov : Value) (o : List Out) (hout : ∀ y ∈ o, OutOk E y) (ho8 : o.length ≤ 8) (ht0 : 0 ≤ E.m.t) (w : World)
    (hl : LnkSlice w (.slice pl E.nl cl) E.nl E.l) (ho : OwnR w 146 3 ov o.length (outCells o)) :
    Calls Tryz.prog 46 #[.agg #[vp, .int .i64 E.me, .slice pl E.nl cl, .int .u64 E.seed], s.val, E.m.val, ov, .int .i64 0] w fun e w' => Up w w' ∧ ∃ v, e = .returned v ∧ OwnR w' 43 7 v o.length (msgCells (sentN E s o o.length)) ∧ ∀ k, sameBlock v k → w.heap.size ≤ k := by
  obtain ⟨i0, hi0, hz0, hz1, hz2⟩ := info_parts infoMsg
  obtain ⟨po, co, hov⟩ : ∃ po co, ov = .slice po o.length co := by
    rcases ho.is with ⟨h1, h2⟩ | ⟨g, cap, h1, _⟩
    · exact ⟨none, 0, by rw [h1, h2]⟩
    · exact ⟨_, _, h1⟩
  subst hov
  have HI := Lib.hid (And.intro hi0 (And.intro hz0 (And.intro hz1 hz2)))
  have HL := Lib.hid hl
  have HO := Lib.hid ho
  have HS := Lib.hid hs
  clear hi0 hz0 hz1 hz2 hl ho hs
  simp only [Sta.val, Sta.cells, Msg.val]
  go_enter Tryz.func46, Tryz.ntmps46
  go_upto_region 1 with (fail)
  have hA : Up w (((w.alloc (.cells #[vp, .int .i64 E.me, .slice pl E.nl cl, .int .u64 E.seed] 26)).alloc (.cells #[.int .i64 (s.r 0), .int .i64 (s.r 1), .int .i64 (s.r 2), .int .i64 (s.r 3), .int .i64 (s.r 4), .int .i64 (s.r 5), .int .i64 (s.r 6), .int .i64 (s.r 7), .int .i64 s.d, .int .i64 s.n] 34)).alloc (.cells #[.int .i64 E.m.t, .int .i64 E.m.f, .int .i64 E.m.s, .int .i64 E.m.to, .int .i64 E.m.v, .int .i64 E.m.u, .bool E.m.an] 43)) := (((alloc_up _ _ _).trans (alloc_up _ _ _)).trans (alloc_up _ _ _))
  have bA := (((Blk.alloc w [vp, .int .i64 E.me, .slice pl E.nl cl, .int .u64 E.seed] 26).up (alloc_up _ #[.int .i64 (s.r 0), .int .i64 (s.r 1), .int .i64 (s.r 2), .int .i64 (s.r 3), .int .i64 (s.r 4), .int .i64 (s.r 5), .int .i64 (s.r 6), .int .i64 (s.r 7), .int .i64 s.d, .int .i64 s.n] 34)).up (alloc_up _ #[.int .i64 E.m.t, .int .i64 E.m.f, .int .i64 E.m.s, .int .i64 E.m.to, .int .i64 E.m.v, .int .i64 E.m.u, .bool E.m.an] 43))
  have bB := ((Blk.alloc (w.alloc (.cells #[vp, .int .i64 E.me, .slice pl E.nl cl, .int .u64 E.seed] 26)) [.int .i64 (s.r 0), .int .i64 (s.r 1), .int .i64 (s.r 2), .int .i64 (s.r 3), .int .i64 (s.r 4), .int .i64 (s.r 5), .int .i64 (s.r 6), .int .i64 (s.r 7), .int .i64 s.d, .int .i64 s.n] 34).up (alloc_up _ #[.int .i64 E.m.t, .int .i64 E.m.f, .int .i64 E.m.s, .int .i64 E.m.to, .int .i64 E.m.v, .int .i64 E.m.u, .bool E.m.an] 43))
  have bC := (Blk.alloc ((w.alloc (.cells #[vp, .int .i64 E.me, .slice pl E.nl cl, .int .u64 E.seed] 26)).alloc (.cells #[.int .i64 (s.r 0), .int .i64 (s.r 1), .int .i64 (s.r 2), .int .i64 (s.r 3), .int .i64 (s.r 4), .int .i64 (s.r 5), .int .i64 (s.r 6), .int .i64 (s.r 7), .int .i64 s.d, .int .i64 s.n] 34)) [.int .i64 E.m.t, .int .i64 E.m.f, .int .i64 E.m.s, .int .i64 E.m.to, .int .i64 E.m.v, .int .i64 E.m.u, .bool E.m.an] 43)
  simp only [World.size_alloc] at bB bC
  generalize (((w.alloc (.cells #[vp, .int .i64 E.me, .slice pl E.nl cl, .int .u64 E.seed] 26)).alloc (.cells #[.int .i64 (s.r 0), .int .i64 (s.r 1), .int .i64 (s.r 2), .int .i64 (s.r 3), .int .i64 (s.r 4), .int .i64 (s.r 5), .int .i64 (s.r 6), .int .i64 (s.r 7), .int .i64 s.d, .int .i64 s.n] 34)).alloc (.cells #[.int .i64 E.m.t, .int .i64 E.m.f, .int .i64 E.m.s, .int .i64 E.m.to, .int .i64 E.m.v, .int .i64 E.m.u, .bool E.m.an] 43)) = W1 at *
  have HA := Lib.hid hA
  have HBK := Lib.hid (And.intro bA (And.intro bB bC))
  clear hA bA bB bC
  go_wp2_with fail
  go_loopw [11, 16] (fun v x wr => ∃ k : Nat, k ≤ o.length ∧ x = .int .i64 k ∧ Hid (Up W1 wr) ∧ Hid (OwnR wr 43 7 v k (msgCells (sentN E s o k))) ∧ Hid (∀ q, sameBlock v q → W1.heap.size ≤ q)) (fun _ x _ => o.length - (intOf x).toNat)
  case atStart => exact ⟨0, Nat.zero_le _, rfl, Lib.hid (Up.refl _), Lib.hid (OwnR.nil _ _ _), Lib.hid (fun q hq => by simp [sameBlock, Value.ownBlock] at hq)⟩
  case round =>
    obtain ⟨k, hk, rfl, hup, hown, hnew⟩ := hrel
    by_cases hlt : k < o.length
    · obtain ⟨x, hx⟩ : ∃ x, o[k]? = some x := ⟨o[k], by simp [hlt]⟩
      have hxk : x ∈ o := List.mem_of_getElem? hx
      obtain ⟨hx0, hx1, hx2, hx3⟩ := hout x hxk
      obtain ⟨q, hq⟩ : ∃ q : Nat, x.k = q := ⟨x.k.toNat, by omega⟩
      have hor := HO.out.up (HA.out.trans hup.out)
      obtain ⟨g, cap, hpo⟩ := hor.pos (by omega)
      injection hpo with hpo _ _
      subst hpo
      have e0 := hor.cell (g := g) rfl (k * 3 + 0) (.int .i64 x.k) (by rw [outCells, flat_get _ 3 (fun _ => rfl) _ _ _ (by omega), hx]; rfl)
      have e1 := hor.cell (g := g) rfl (k * 3 + 1) (.int .i64 x.d) (by rw [outCells, flat_get _ 3 (fun _ => rfl) _ _ _ (by omega), hx]; rfl)
      have e2 := hor.cell (g := g) rfl (k * 3 + 2) (.int .i64 x.v) (by rw [outCells, flat_get _ 3 (fun _ => rfl) _ _ _ (by omega), hx]; rfl)
      rw [Nat.add_zero] at e0
      rw [hq] at e0
      obtain ⟨lb, lo, hpl, hrow⟩ := ((HL.out.up (HA.out.trans hup.out)).at' (by omega))
      subst hpl
      have hqn : q < E.nl := by omega
      have hlk := (hrow q hqn).2.1
      have HX := Lib.hid (And.intro hx (And.intro hq hrow))
      have hx1' : (q : Int) < E.nl := by omega
      clear hor hx hq hrow hout hx1
      go_upto_region 5 with (fail)
      have hUX : Up W1 (wr.alloc (.cells #[.int .i64 q, .int .i64 x.d, .int .i64 x.v] 146)) := hup.out.trans (alloc_up _ _ _)
      have bX := Blk.alloc wr [.int .i64 q, .int .i64 x.d, .int .i64 x.v] 146
      have ovX := hown.out.up (alloc_up wr #[.int .i64 q, .int .i64 x.d, .int .i64 x.v] 146)
      have hlkX := cell_up (alloc_up wr #[.int .i64 q, .int .i64 x.d, .int .i64 x.v] 146) hlk
      obtain ⟨X, hX⟩ : ∃ X, wr.heap.size = X := ⟨_, rfl⟩
      rw [hX] at bX ⊢
      generalize (wr.alloc (.cells #[.int .i64 q, .int .i64 x.d, .int .i64 x.v] 146)) = W2 at *
      have rX := bX.get
      have rA := (HBK.out.1.up hUX).get
      have rB := (HBK.out.2.1.up hUX).get
      have rC := (HBK.out.2.2.up hUX).get
      have w_s : IntKind.i64.wrap (4611686018427387903 - E.m.t) = 4611686018427387903 - E.m.t := IntWalk.i64_in _ (by omega)
      clear e0 e1 e2 hlk hX
      go_upto_region 6 with (fail)
      clear rX rA rB rC
      have kX := bX.lift
      have kA := (HBK.out.1.up hUX).lift
      have kB := (HBK.out.2.1.up hUX).lift
      have kC := (HBK.out.2.2.up hUX).lift
      have kL := lift hlkX
      have w_t : IntKind.i64.wrap (E.m.t + x.d) = E.m.t + x.d := IntWalk.i64_in _ (by omega)
      have w_n : IntKind.i64.wrap (s.n + (k : Int)) = s.n + k := IntWalk.i64_in _ (by have := HS.out.n0; have := HS.out.n1; omega)
      have w_k : IntKind.i64.wrap (k : Int) = k := IntWalk.i64_in _ (by omega)
      refine region_upL0 [0, 1, 2, 3, 4, 5, 6, 7, 8, 9, 10, 11, 12, 13, 14, 15, 16, 17, 18, 19, 20, 21, 22, 23, 24, 25, 26] [27] 28 [29] (by kernel_rfl) (by kernel_rfl) ?_
      simp only [getOps, List.getElem?_cons_zero, List.getElem?_cons_succ]
      repeat (apply wpUp_step rfl rfl; (focus (intro W hU; go_simp; exact ⟨rfl, Up.refl _⟩)); go_simp)
      refine wpUp_nil fun W3 hW3 => ?_
      clear kX kA kB kC kL
      refine wpNew_step rfl fun W4 hW4 K hK => ?_
      go_simp
      refine ⟨alloc_up _ _ _, hK _ _ ?_⟩
      clear hK K
      refine wpNew_nil fun W5 hW5 => ?_
      have hU5 : Up W2 W5 := (((up_drew.trans hW3).trans hW4).trans (alloc_up _ _ _)).trans hW5
      have bN := (Blk.alloc W4 (sentMsg E s k x).list 43).up (w' := W5) (by
        have : (sentMsg E s k x).list = [.int .i64 (E.m.t + x.d), .int .i64 E.me, .int .i64 (s.n + k), .int .i64 (E.l q).to, .int .i64 x.v, .int .i64 k, .bool false] := by
          show [Value.int .i64 (E.m.t + x.d), .int .i64 E.me, .int .i64 (s.n + k), .int .i64 (E.l x.k.toNat).to, .int .i64 x.v, .int .i64 k, .bool false] = _
          rw [HX.out.2.1, Int.toNat_natCast]
        rw [this]; exact hW5)
      have hsrc := srcBlk bN
      have ov5 := ovX.up hU5
      have hgd : o.getD k ⟨0, 0, 0⟩ = x := by rw [List.getD_eq_getElem?_getD, HX.out.1]; rfl
      refine wpList_append_chg rfl (.tmp 41) (.tmp 68) 39 rfl 43 i0 _ 7 56 Tryz.underlying39 HI.out.1 HI.out.2.1 HI.out.2.2.1 HI.out.2.2.2 rfl (by decide) _ k _ rfl ov5 _ 1 _ rfl (by simp) hsrc (by simp [Value.oneCell']) (by unfold maxLen; omega) (by omega) ?_
      intro v' W6 hown6 hchg6 hnew6
      have hsn := sentN_succ E s o k
      rw [hgd] at hsn
      have hown7 : OwnR W6 43 7 v' (k + 1) (msgCells (sentN E s o (k + 1))) := by rw [hsn, msgCells_snoc]; exact hown6
      have hU6 : Up W1 W6 := ((Chg.of_up (hUX.trans hU5)).trans hchg6 (fun _ _ h => h)).to_up (fun q hq e => by have := hnew.out q e; omega)
      have hnew7 : ∀ q, sameBlock v' q → W1.heap.size ≤ q := fun q hq => (hnew6 q hq).elim (fun h => hnew.out q h) fun h => Nat.le_trans (hUX.trans hU5).1.size h
      have H7 := Lib.hid (And.intro hown7 (And.intro hU6 hnew7))
      clear hsn hown6 hown7 hU6 hnew6 hnew7 hchg6 hsrc ov5 bN hgd hW3 hW4 hW5
      go_wp2
      exact ⟨⟨_, _, _, _, ⟨k + 1, by omega, by go_num, Lib.hid H7.out.2.1, Lib.hid H7.out.1, Lib.hid H7.out.2.2⟩, rfl, rfl, rfl, rfl⟩, by simp [intOf]; omega⟩
    · have hkk : k = o.length := by omega
      go_wp2
      go_ret
      have hw1 := HA.out.1.size
      exact ⟨HA.out.trans hup.out, _, rfl, by have := hown.out; rw [hkk] at this; exact this, fun q hq => Nat.le_trans hw1 (hnew.out q hq)⟩
end Go.Proofs.YtalmjdlcogdpmaaGreatDoor

namespace Go.Proofs.YtalmjdlcogdpmaaGreatDoor
open Go.RowKit

/-- An entry of a log: the event, its fault, what it sent, the block of the state ahead of it. -/
structure Ent where
  m : Msg
  f : Int
  sv : Value
  sent : List Msg
  ah : Option Nat
abbrev Ent.list (e : Ent) : List Value := [.int .i64 e.m.t, .int .i64 e.m.f, .int .i64 e.m.s, .int .i64 e.m.to, .int .i64 e.m.v, .int .i64 e.m.u, .bool e.m.an, .int .i64 e.f, e.sv, .pointer (e.ah.map fun b => ⟨b, 0, none⟩)]
def entCells (es : List Ent) : List Value := es.flatMap Ent.list
theorem entCells_length (es : List Ent) : (entCells es).length = es.length * 10 := flat_len _ 10 (fun _ => rfl) es
theorem entCells_snoc (es : List Ent) (e : Ent) : entCells (es ++ [e]) = entCells es ++ e.list := by simp [entCells]
abbrev Sta.list (s : Sta) : List Value := [.int .i64 (s.r 0), .int .i64 (s.r 1), .int .i64 (s.r 2), .int .i64 (s.r 3), .int .i64 (s.r 4), .int .i64 (s.r 5), .int .i64 (s.r 6), .int .i64 (s.r 7), .int .i64 s.d, .int .i64 s.n]
def envOf (E : Env) (m : Msg) : Env := { E with m := m }
/-- The state behind a message. -/
def nextS (E : Env) (s : Sta) (m : Msg) : Sta := (vmRun (envOf E m) s).s
def stOf (E : Env) (s : Sta) (l : List Msg) : Sta := l.foldl (nextS E) s
theorem stOf_snoc (E : Env) (s : Sta) (l : List Msg) (m : Msg) : stOf E s (l ++ [m]) = nextS E (stOf E s l) m := by simp [stOf]
structure LogV where
  pv : Option Addr
  pl : Option Addr
  cv : Nat
  cl : Nat
  lv : Value

theorem InsSlice.chg {S : Nat → Prop} {w w' : World} {pv : Option Addr} {np cv n : Nat} {l : Nat → Ins} (h : InsSlice w (.slice pv np cv) n l) (hc : Chg S w w') (hn : ∀ k, sameBlock (.slice pv np cv) k → ¬ S k) : InsSlice w' (.slice pv np cv) n l := by
  rcases h with ⟨b, o, cap, hv, hr⟩ | h
  · injection hv with hv _ _
    subst hv
    have hb : ¬ S b := hn b rfl
    exact .inl ⟨b, o, cap, by simp_all, fun i hi => ⟨hc.cell hb (hr i hi).1, hc.cell hb (hr i hi).2.1, hc.cell hb (hr i hi).2.2.1, hc.cell hb (hr i hi).2.2.2⟩⟩
  · exact .inr h
theorem LnkSlice.chg {S : Nat → Prop} {w w' : World} {pl : Option Addr} {np cl n : Nat} {l : Nat → Lnk} (h : LnkSlice w (.slice pl np cl) n l) (hc : Chg S w w') (hn : ∀ k, sameBlock (.slice pl np cl) k → ¬ S k) : LnkSlice w' (.slice pl np cl) n l := by
  rcases h with ⟨b, o, cap, hv, hr⟩ | h
  · injection hv with hv _ _
    subst hv
    have hb : ¬ S b := hn b rfl
    exact .inl ⟨b, o, cap, by simp_all, fun i hi => ⟨hc.cell hb (hr i hi).1, hc.cell hb (hr i hi).2.1, hc.cell hb (hr i hi).2.2.1, hc.cell hb (hr i hi).2.2.2⟩⟩
  · exact .inr h

/-- What of a log can be read: the world, the entries, the states ahead of them. -/
structure LogR (W : World) (a : Nat) (V : LogV) (E : Env) (i0 : Sta) (es : List Ent) : Prop where
  w : Blk W a [.slice V.pv E.np V.cv, .int .i64 E.me, .slice V.pl E.nl V.cl, .int .u64 E.seed]
  l : W.cell? ⟨a, 16, none⟩ = some V.lv
  row : OwnR W 76 10 V.lv es.length (entCells es)
  ins : InsSlice W (.slice V.pv E.np V.cv) E.np E.p
  lnk : LnkSlice W (.slice V.pl E.nl V.cl) E.nl E.l
  insb : ∀ k, sameBlock (.slice V.pv E.np V.cv) k → k < W.heap.size
  lnkb : ∀ k, sameBlock (.slice V.pl E.nl V.cl) k → k < W.heap.size
  g : W.cell? ⟨0, 0, none⟩ = some (.iface 151 (.agg #[.pointer (some ⟨1, 96, none⟩)]))
  ahead : ∀ k e b, es[k]? = some e → e.ah = some b → Blk W b (stOf E i0 ((es.take k).map Ent.m)).list
  sent : ∀ e ∈ es, OwnR W 43 7 e.sv e.sent.length (msgCells e.sent)
/-- The blocks of a log. -/
def foot (a : Nat) (V : LogV) (E : Env) (es : List Ent) (k : Nat) : Prop :=
  k = a ∨ sameBlock V.lv k ∨ sameBlock (.slice V.pv E.np V.cv) k ∨ sameBlock (.slice V.pl E.nl V.cl) k ∨ k = 0 ∨ ∃ e ∈ es, sameBlock e.sv k ∨ e.ah = some k
theorem LogR.chg {S : Nat → Prop} {W W' : World} {a : Nat} {V : LogV} {E : Env} {i0 : Sta} {es : List Ent} (h : LogR W a V E i0 es) (hc : Chg S W W') (hS : ∀ k, S k → ¬ foot a V E es k) : LogR W' a V E i0 es where
  w := h.w.chg hc fun hs => hS a hs (.inl rfl)
  l := hc.cell (fun hs => hS a hs (.inl rfl)) h.l
  row := h.row.chg hc fun k hk hs => hS k hs (.inr (.inl hk))
  ins := h.ins.chg hc fun k hk hs => hS k hs (.inr (.inr (.inl hk)))
  lnk := h.lnk.chg hc fun k hk hs => hS k hs (.inr (.inr (.inr (.inl hk))))
  insb := fun k hk => Nat.lt_of_lt_of_le (h.insb k hk) hc.size
  lnkb := fun k hk => Nat.lt_of_lt_of_le (h.lnkb k hk) hc.size
  g := hc.cell (fun hs => hS 0 hs (.inr (.inr (.inr (.inr (.inl rfl)))))) h.g
  ahead := fun k e b hk hb => (h.ahead k e b hk hb).chg hc fun hs => hS b hs (.inr (.inr (.inr (.inr (.inr ⟨e, List.mem_of_getElem? hk, .inr hb⟩)))))
  sent := fun e he => (h.sent e he).chg hc fun k hk hs => hS k hs (.inr (.inr (.inr (.inr (.inr ⟨e, he, .inl hk⟩)))))
theorem LogR.up {W W' : World} {a : Nat} {V : LogV} {E : Env} {i0 : Sta} {es : List Ent} (h : LogR W a V E i0 es) (hu : Up W W') : LogR W' a V E i0 es := h.chg (S := fun _ => False) (.of_up hu) fun _ e => e.elim
theorem LogR.foot_lt {W : World} {a : Nat} {V : LogV} {E : Env} {i0 : Sta} {es : List Ent} (h : LogR W a V E i0 es) : ∀ k, foot a V E es k → k < W.heap.size := by
  rintro k (rfl | hk | hk | hk | rfl | ⟨e, he, hk | hk⟩)
  · exact h.w.lt (by simp)
  · exact h.row.block_lt k hk
  · exact h.insb k hk
  · exact h.lnkb k hk
  · exact World.block_lt_of_cell? W _ h.g
  · exact (h.sent e he).block_lt k hk
  · obtain ⟨i, hi⟩ := List.getElem?_of_mem he
    exact (h.ahead i e k hi hk).lt (by simp)
/-- An entry's cells. -/
theorem LogR.ent {W : World} {a : Nat} {V : LogV} {E : Env} {i0 : Sta} {es : List Ent} (h : LogR W a V E i0 es) {k : Nat} {e : Ent} (he : es[k]? = some e) :
    ∃ g cap, V.lv = .slice (some ⟨g, 0, none⟩) es.length cap ∧ BlkAt W g (k * 10) e.list := by
  have hk : k < es.length := (List.getElem?_eq_some_iff.1 he).1
  obtain ⟨g, cap, hv⟩ := h.row.pos (by omega)
  refine ⟨g, cap, hv, ⟨fun i hi => ?_⟩⟩
  have hi' : i < 10 := hi
  refine h.row.cell (g := g) (by rw [hv]; rfl) (k * 10 + i) _ ?_
  rw [entCells, flat_get _ 10 (fun _ => rfl) _ _ _ hi', he]
  simp only [Option.bind_some]
  rw [List.getD_eq_getElem?_getD, List.getElem?_eq_getElem hi]; rfl
theorem LogR.lvs {W : World} {a : Nat} {V : LogV} {E : Env} {i0 : Sta} {es : List Ent} (h : LogR W a V E i0 es) : ∃ p cap, V.lv = .slice p es.length cap := by
  rcases h.row.is with ⟨h1, h2⟩ | ⟨g, cap, h1, _⟩
  · exact ⟨none, 0, by rw [h1, h2]⟩
  · exact ⟨_, _, h1⟩

/-! ### Good states -/
structure GoodK (k : Nat) (s : Sta) : Prop where
  r : ∀ i, I64 (s.r i)
  d0 : 0 ≤ s.d
  d1 : s.d ≤ 4096 * k
  n0 : 0 ≤ s.n
  n1 : s.n ≤ 8 * k
theorem GoodK.sta {k : Nat} {s : Sta} (h : GoodK k s) (hk : k ≤ 1000000) : GoodSta s := ⟨h.r, h.d0, by have := h.d1; omega, h.n0, by have := h.n1; omega⟩
def okE (E : Env) : Prop := vmErr E.np E.p E.me E.nl E.l = 0
structure okM (m : Msg) : Prop where
  c : chkB m = true
  v : I64 m.v
theorem okM.t {m : Msg} (h : okM m) : 0 ≤ m.t ∧ m.t ≤ 4611686018427387903 := by
  have := h.c
  simp [chkB, validB] at this
  exact this.1.1.1
theorem goodE_of {E : Env} (h : okE E) {m : Msg} (hm : okM m) : GoodE (envOf E m) := by
  obtain ⟨h1, _, h3, h4, _⟩ := vmErr_zero h
  have h3 : 0 ≤ E.me ∧ E.me < 16 := by simpa [laneB] using h3
  exact ⟨hm.v, by have := hm.t; exact ⟨by show -9223372036854775808 ≤ m.t; omega, by show m.t ≤ 9223372036854775807; omega⟩, ⟨by show -9223372036854775808 ≤ E.me; omega, by show E.me ≤ 9223372036854775807; omega⟩, h4, h1⟩
theorem next_good {E : Env} (h : okE E) {m : Msg} (hm : okM m) {k : Nat} {s : Sta} (hk : k ≤ 1000000) (hs : GoodK k s) : GoodK (k + 1) (nextS E s m) := by
  have hE := goodE_of h hm
  obtain ⟨_, hp, _⟩ := vmErr_zero h
  unfold nextS vmRun
  have hst : GoodS (envOf E m) (4096 * (k : Int) - 1125899906842624) (startOf s) :=
    ⟨fun i => by show I64 (if i < 8 then s.r i else 0); split; exact hs.r i; exact ⟨by omega, by omega⟩, hs.d0, by have := hs.d1; show s.d ≤ _; omega, by show (0 : Int) ≤ 0; omega, by show (0 : Int) ≤ _; omega, by show 0 ≤ 8; omega⟩
  split
  · rename_i t ht
    have ht' := runF_good hE hp 4096 _ _ hst ht
    exact ⟨fun i => by show I64 (if i < 8 then t.r i else 0); split; exact ht'.r i; exact ⟨by omega, by omega⟩, ht'.d0, by have := ht'.d1; show t.d ≤ _; omega, by have := hs.n0; show 0 ≤ s.n + _; omega, by have := hs.n1; have := ht'.o; show s.n + _ ≤ _; omega⟩
  · exact ⟨hs.r, hs.d0, by have := hs.d1; show s.d ≤ _; omega, hs.n0, by have := hs.n1; show s.n ≤ _; omega⟩
theorem stOf_good {E : Env} (h : okE E) : ∀ (l : List Msg) {k : Nat} {s : Sta}, (∀ m ∈ l, okM m) → k + l.length ≤ 1000000 → GoodK k s → GoodK (k + l.length) (stOf E s l)
  | [], k, s, _, _, hs => hs
  | m :: l, k, s, hm, hk, hs => by
    have h1 := next_good h (hm m (by simp)) (by simp at hk; omega) hs
    have := stOf_good h l (fun x hx => hm x (by simp [hx])) (by simp at hk; omega) h1
    rw [show k + (m :: l).length = k + 1 + l.length by simp; omega]
    exact this
end Go.Proofs.YtalmjdlcogdpmaaGreatDoor

namespace Go.Proofs.YtalmjdlcogdpmaaGreatDoor
open Go.RowKit
attribute [local go_sem] upUpon_value upUpon_enter upUpon_skip upUpon_row ucUpon_value ucUpon_skip ucUpon_enter ucUpon_row


abbrev logList (V : LogV) (E : Env) (s : Sta) (every : Nat) (stuck : Bool) : List Value :=
  [.slice V.pv E.np V.cv, .int .i64 E.me, .slice V.pl E.nl V.cl, .int .u64 E.seed, .bool true, .int .i64 (s.r 0), .int .i64 (s.r 1), .int .i64 (s.r 2), .int .i64 (s.r 3), .int .i64 (s.r 4), .int .i64 (s.r 5), .int .i64 (s.r 6), .int .i64 (s.r 7), .int .i64 s.d, .int .i64 s.n, .int .i64 every, V.lv, .bool stuck]
/-- What never turns. -/
def firm (V : LogV) (E : Env) (es : List Ent) (k : Nat) : Prop := sameBlock (.slice V.pv E.np V.cv) k ∨ sameBlock (.slice V.pl E.nl V.cl) k ∨ k = 0 ∨ ∃ e ∈ es, sameBlock e.sv k ∨ e.ah = some k
/-- What turns. -/
def turns (a : Nat) (V : LogV) (k : Nat) : Prop := k = a ∨ sameBlock V.lv k
theorem foot_iff {a : Nat} {V : LogV} {E : Env} {es : List Ent} {k : Nat} : foot a V E es k ↔ turns a V k ∨ firm V E es k := by unfold foot turns firm; rw [or_assoc]
structure LogIs (W : World) (a : Nat) (V : LogV) (E : Env) (i0 : Sta) (es : List Ent) (every : Nat) (stuck : Bool) : Prop where
  r : LogR W a V E i0 es
  b : Blk W a (logList V E (stOf E i0 (es.map Ent.m)) every stuck)
  fz : ∀ j, W.frozen? ⟨a, j, none⟩ = false
  ap : ¬ sameBlock V.lv a
  fa : ¬ firm V E es a
  fr : ∀ k, sameBlock V.lv k → ¬ firm V E es k
theorem LogIs.chg {S : Nat → Prop} {W W' : World} {a : Nat} {V : LogV} {E : Env} {i0 : Sta} {es : List Ent} {every : Nat} {stuck : Bool} (h : LogIs W a V E i0 es every stuck) (hc : Chg S W W') (hS : ∀ k, S k → ¬ foot a V E es k) : LogIs W' a V E i0 es every stuck :=
  ⟨h.r.chg hc hS, h.b.chg hc fun hs => hS a hs (.inl rfl), fun j => (hc.marks _).trans (h.fz j), h.ap, h.fa, h.fr⟩
theorem LogIs.up {W W' : World} {a : Nat} {V : LogV} {E : Env} {i0 : Sta} {es : List Ent} {every : Nat} {stuck : Bool} (h : LogIs W a V E i0 es every stuck) (hu : Up W W') : LogIs W' a V E i0 es every stuck := h.chg (S := fun _ => False) (.of_up hu) fun _ e => e.elim

/-- What the entries of a log are. -/
structure EntsOk (E : Env) (i0 : Sta) (es : List Ent) : Prop where
  m : ∀ e ∈ es, okM e.m
  f : ∀ k e, es[k]? = some e → e.f = (vmRun (envOf E e.m) (stOf E i0 ((es.take k).map Ent.m))).f
  s : ∀ k e, es[k]? = some e → e.sent.length = (vmRun (envOf E e.m) (stOf E i0 ((es.take k).map Ent.m))).o.length
  a : ∀ e, es[0]? = some e → e.ah ≠ none
  n : es.length ≤ 40
  g : GoodK 0 i0

set_option maxHeartbeats 1000000 in
theorem lognone_any (a : Nat) (w : World) (h : w.cell? ⟨a, 4, none⟩ = some (.bool true)) : Calls Tryz.prog 22 #[.pointer (some ⟨a, 0, none⟩)] w fun e w' => e = .returned (.bool false) ∧ w' = w := by
  go_enter Tryz.func22, Tryz.ntmps22
  go_wp2
  go_ret
  exact ⟨rfl, rfl⟩

set_option maxHeartbeats 2000000 in
/-- State. -/
theorem logstate_any {a : Nat} {V : LogV} {E : Env} {i0 : Sta} {es : List Ent} {every : Nat} {stuck : Bool} {w : World} (h : LogIs w a V E i0 es every stuck) :
    Calls Tryz.prog 16 #[.pointer (some ⟨a, 0, none⟩)] w fun e w' => e = .returned (stOf E i0 (es.map Ent.m)).val ∧ Up w w' := by
  obtain ⟨s, hs⟩ : ∃ s, stOf E i0 (es.map Ent.m) = s := ⟨_, rfl⟩
  have hb := h.b
  rw [hs] at hb ⊢
  clear hs
  go_enter Tryz.func16, Tryz.ntmps16
  go_upto_region 1 with (fail)
  refine wp_alloc1 fun W hU hsz bR => ?_
  have b1 := hb.up hU
  have hn := lognone_any a W (b1.at (i := 4) rfl)
  have HN := Lib.hid hn
  clear hn
  go_wp2_with fail
  refine HN.out.mono ?_
  rintro e w2 ⟨rfl, rfl⟩
  have rL := b1.get
  have rR := bR.get
  have hF : ∀ j, w2.frozen? ⟨w.heap.size, j, none⟩ = false := fun j => new_free w (.map #[] 0) hU j _ (Nat.le_refl _)
  have bR2 := Blk.sets s.list 0 bR (by simp)
  have hU2 : Up w (w2.setCells w.heap.size 0 s.list) := (Chg.setCells (S := (· = w.heap.size)) (Or.inl rfl) s.list 0 (Chg.of_up hU)).to_up fun k hk e => by omega
  have H := Lib.hid (And.intro bR2 hU2)
  clear bR2 hU2
  go_wp2
  exact bodyPost_ret (w := w2.setCells w.heap.size 0 s.list) (results_blk rfl rfl H.out.1 Tryz.underlying34 rfl (by kernel_rfl)) rfl ⟨rfl, H.out.2⟩

set_option maxHeartbeats 2000000 in
/-- Last. -/
theorem loglast_any {a : Nat} {V : LogV} {E : Env} {i0 : Sta} {es : List Ent} {every : Nat} {stuck : Bool} {w : World} (h : LogIs w a V E i0 es every stuck) (hlen : es.length ≤ 1000000) :
    Calls Tryz.prog 7 #[.pointer (some ⟨a, 0, none⟩)] w fun e w' => Up w w' ∧ ((es = [] ∧ e = .returned (.tuple #[zeroMsg.val, .bool false])) ∨ ∃ x, es.getLast? = some x ∧ e = .returned (.tuple #[x.m.val, .bool true])) := by
  have h4 := h.b.at (i := 4) rfl
  rcases List.eq_nil_or_concat es with he | ⟨es', x, he⟩
  · have hl := h.r.l
    obtain ⟨p, cap, hlv⟩ := h.r.lvs
    rw [hlv, he] at hl
    simp only [List.length_nil] at hl
    have HE := Lib.hid (And.intro he hlen)
    clear he h hlv hlen
    go_enter Tryz.func7, Tryz.ntmps7
    go_upto_region 1 with (fail)
    refine wp_alloc1 fun W hU hsz bR => ?_
    have hl := cell_up hU hl
    have HN := Lib.hid (lognone_any a W (cell_up hU h4))
    go_wp2_with fail
    refine HN.out.mono ?_
    rintro e w2 ⟨rfl, rfl⟩
    have rR := bR.get
    have hF : ∀ j, w2.frozen? ⟨w.heap.size, j, none⟩ = false := fun j => new_free w (.map #[] 0) hU j _ (Nat.le_refl _)
    have bR2 := Blk.sets zeroMsg.list 0 bR (by simp)
    have hU2 : Up w (w2.setCells w.heap.size 0 zeroMsg.list) := (Chg.setCells (S := (· = w.heap.size)) (Or.inl rfl) zeroMsg.list 0 (Chg.of_up hU)).to_up fun k hk e => by omega
    have H := Lib.hid (And.intro bR2 hU2)
    clear bR2 hU2
    go_wp2
    exact bodyPost_ret (w := w2.setCells w.heap.size 0 zeroMsg.list) (results_blk_tmp rfl rfl H.out.1 Tryz.underlying43 rfl infoMsgN) rfl ⟨H.out.2, .inl ⟨HE.out.1, rfl⟩⟩
  · rw [List.concat_eq_append] at he
    have hn : es.length = es'.length + 1 := by rw [he]; simp
    have hx : es[es'.length]? = some x := by rw [he]; simp
    have hg : es.getLast? = some x := by rw [he]; simp
    obtain ⟨g, cap, hlv, hbe⟩ := h.r.ent hx
    have hl := h.r.l
    rw [hlv] at hl
    have HE := Lib.hid (And.intro hg hlen)
    have hd : (((es.length : Nat) : Int) == 0) = false := by rw [beq_eq_false_iff_ne]; omega
    obtain ⟨j, hj⟩ : ∃ j, es'.length = j := ⟨_, rfl⟩
    rw [hj] at hbe hn
    have hd2 : decide ((j : Int) < (es.length : Int)) = true := decide_eq_true (by omega)
    have hjl : j < es.length := by omega
    have w_k : IntKind.i64.wrap ((es.length : Int) - 1) = (j : Int) := by rw [IntWalk.i64_in _ (by omega)]; omega
    clear he hn hx hg hlv hlen h hj
    go_enter Tryz.func7, Tryz.ntmps7
    go_upto_region 1 with (fail)
    refine wp_alloc1 fun W hU hsz bR => ?_
    have hl := cell_up hU hl
    have HN := Lib.hid (lognone_any a W (cell_up hU h4))
    go_wp2_with fail
    refine HN.out.mono ?_
    rintro e w2 ⟨rfl, rfl⟩
    go_upto_region 3 with (fail)
    have hbe2 := hbe.up hU
    have kL := lift hl
    have kE := hbe2.lift
    have kE0 := lift hbe2.zero
    clear hd hl hbe2 hbe
    refine region_upL0 [0, 1, 2, 3, 4, 5, 6, 7, 8, 9, 10, 11, 12] [] 13 [14] (by kernel_rfl) (by kernel_rfl) ?_
    simp only [getOps, List.getElem?_cons_zero, List.getElem?_cons_succ]
    repeat (apply wpUp_step rfl rfl; (focus (intro W hU; go_simp; exact ⟨rfl, Up.refl _⟩)); go_simp)
    refine wpUp_nil fun W3 hW3 => ?_
    refine wpNew_nil fun W4 hW4 => ?_
    clear kL kE kE0 hd2 w_k
    have hU4 : Up w W4 := (hU.trans (up_drew.trans hW3)).trans hW4
    have bR := bR.up ((up_drew.trans hW3).trans hW4)
    have rR := bR.get
    have hF : ∀ j, W4.frozen? ⟨w.heap.size, j, none⟩ = false := fun j => new_free w (.map #[] 0) hU4 j _ (Nat.le_refl _)
    have bR2 := Blk.sets x.m.list 0 bR (by simp)
    have hU2 : Up w (W4.setCells w.heap.size 0 x.m.list) := (Chg.setCells (S := (· = w.heap.size)) (Or.inl rfl) x.m.list 0 (Chg.of_up hU4)).to_up fun k hk e => by omega
    have H := Lib.hid (And.intro bR2 hU2)
    clear bR2 hU2
    go_wp2
    exact bodyPost_ret (w := W4.setCells w.heap.size 0 x.m.list) (results_blk_tmp rfl rfl H.out.1 Tryz.underlying43 rfl infoMsgN) rfl ⟨H.out.2, .inr ⟨x, HE.out.1, rfl⟩⟩

set_option maxHeartbeats 2000000 in
/-- due: what it answers of an empty log is 'yes'; else it may be either. -/
theorem logdue_any {a : Nat} {V : LogV} {E : Env} {i0 : Sta} {es : List Ent} {every : Nat} {stuck : Bool} {w : World} (h : LogIs w a V E i0 es every stuck) (hlen : es.length ≤ 1000000) :
    Calls Tryz.prog 32 #[.pointer (some ⟨a, 0, none⟩)] w fun e w' => Up w w' ∧ ∃ b, e = .returned (.bool b) ∧ (es = [] → b = true) := by
  have HL := Lib.hid h
  have rL := h.b.get
  obtain ⟨p, cap, hlv⟩ := h.r.lvs
  rw [logList, hlv] at rL
  have hl := h.r.l
  rw [hlv] at hl
  clear h hlv
  go_enter Tryz.func32, Tryz.ntmps32
  go_wp2_with fail
  go_loopw [9, 3] (fun v _ wr => ∃ k : Nat, k ≤ es.length ∧ v = .int .i64 k ∧ Hid (Up w wr)) (fun v _ _ => es.length - (intOf v).toNat)
  case atStart => exact ⟨0, Nat.zero_le _, rfl, Lib.hid (Up.refl _)⟩
  case round =>
    obtain ⟨k, hk, rfl, hup⟩ := hrel
    clear rL hl
    by_cases hlt : k < es.length
    · obtain ⟨j, hj⟩ : ∃ j, j = es.length - 1 - k := ⟨_, rfl⟩
      have hjl : j < es.length := by omega
      obtain ⟨e, he⟩ : ∃ e, es[j]? = some e := ⟨es[j], by rw [List.getElem?_eq_getElem]⟩
      have hL := HL.out.up hup.out
      obtain ⟨g, cap, hlv, hbe⟩ := hL.r.ent he
      have hl := hL.r.l
      rw [hlv] at hl
      have hev := hL.b.at (i := 15) rfl
      have kL := lift hl
      have kE := hbe.lift
      have w_1 : IntKind.i64.wrap ((es.length : Int) - 1) = ((es.length : Int) - 1) := IntWalk.i64_in _ (by omega)
      have w_2 : IntKind.i64.wrap ((es.length : Int) - 1 - k) = (j : Int) := by rw [IntWalk.i64_in _ (by omega)]; omega
      have hd2 : decide ((j : Int) < (es.length : Int)) = true := decide_eq_true (by omega)
      have w_3 : IntKind.i64.wrap ((k : Int) + 1) = ((k + 1 : Nat) : Int) := by rw [IntWalk.i64_in _ (by omega)]; rfl
      have HS := Lib.hid (And.intro he hlv)
      clear he hlv hL hbe hl hj
      go_upto_region 4 with (fail)
      refine region_upL0 [0, 1, 2, 3, 4, 5, 6, 7, 8, 9, 10, 11, 12, 13, 14] [] 15 [] (by kernel_rfl) (by kernel_rfl) ?_
      simp only [getOps, List.getElem?_cons_zero, List.getElem?_cons_succ]
      rcases hah : e.ah with _ | b
      · simp only [Ent.list, hah, Option.map] at kE
        clear hah
        repeat (apply wpUp_step rfl rfl; (focus (intro W hU; go_simp; exact ⟨rfl, Up.refl _⟩)); go_simp)
        refine wpUp_nil fun W3 hW3 => ?_
        refine wpNew_nil fun W4 hW4 => ?_
        have hu4 := Lib.hid ((hup.out.trans (up_drew.trans hW3)).trans hW4)
        clear kL kE hd2 w_1 w_2
        go_wp2
        exact ⟨⟨k + 1, by omega, by go_num, hu4⟩, by simp [intOf]; omega⟩
      · simp only [Ent.list, hah, Option.map] at kE
        clear hah
        repeat (apply wpUp_step rfl rfl; (focus (intro W hU; go_simp; exact ⟨rfl, Up.refl _⟩)); go_simp)
        refine wpUp_nil fun W3 hW3 => ?_
        refine wpNew_nil fun W4 hW4 => ?_
        have hu4 := Lib.hid ((hup.out.trans (up_drew.trans hW3)).trans hW4)
        have hev4 := cell_up ((up_drew.trans hW3).trans hW4) hev
        clear kL kE hd2 w_1 w_2
        go_wp2
        go_ret
        exact ⟨hu4.out, _, rfl, fun h0 => by rw [h0] at hlt; simp at hlt⟩
    · have HI := Lib.hid hlt
      have hk2 : decide ((k : Int) < (es.length : Int)) = false := decide_eq_false (by omega)
      go_wp2
      go_ret
      exact ⟨hup.out, _, rfl, fun _ => rfl⟩

set_option maxHeartbeats 2000000 in
/-- Kept. -/
theorem logkept_any {a : Nat} {V : LogV} {E : Env} {i0 : Sta} {es : List Ent} {every : Nat} {stuck : Bool} {w : World} (h : LogIs w a V E i0 es every stuck) (hlen : es.length ≤ 1000000) :
    Calls Tryz.prog 17 #[.pointer (some ⟨a, 0, none⟩)] w fun e w' => Up w w' ∧ ∃ n : Nat, 1 ≤ n ∧ n ≤ 1000001 ∧ e = .returned (.int .i64 n) := by
  have HL := Lib.hid h
  have rL := h.b.get
  obtain ⟨p, cap, hlv⟩ := h.r.lvs
  rw [logList, hlv] at rL
  have hl := h.r.l
  rw [hlv] at hl
  have HN := Lib.hid (lognone_any a w (h.b.at (i := 4) rfl))
  have HV := Lib.hid hlv
  clear h hlv
  go_enter Tryz.func17, Tryz.ntmps17
  go_wp2_with fail
  refine HN.out.mono ?_
  rintro e w2 ⟨rfl, rfl⟩
  go_wp2_with fail
  go_loopw [13, 3] (fun v x wr => ∃ k n : Nat, k ≤ es.length ∧ 1 ≤ n ∧ n ≤ k + 1 ∧ v = .int .i64 k ∧ x = .int .i64 n ∧ Hid (Up w2 wr)) (fun v _ _ => es.length - (intOf v).toNat)
  case atStart => exact ⟨0, 1, Nat.zero_le _, Nat.le_refl _, Nat.le_refl _, rfl, rfl, Lib.hid (Up.refl _)⟩
  case round =>
    obtain ⟨k, n, hk, hn1, hn2, rfl, rfl, hup⟩ := hrel
    clear rL hl
    by_cases hlt : k < es.length
    · obtain ⟨e, he⟩ : ∃ e, es[k]? = some e := ⟨es[k], by simp [hlt]⟩
      have hL := HL.out.up hup.out
      obtain ⟨g, cap', hlv, hbe⟩ := hL.r.ent he
      have hpg : p = some ⟨g, 0, none⟩ := by have := HV.out; rw [hlv] at this; injection this with h1 _ _; exact h1.symm
      subst hpg
      have rE := hbe.get
      have rE0 := hbe.zero
      have w_3 : IntKind.i64.wrap ((k : Int) + 1) = ((k + 1 : Nat) : Int) := by rw [IntWalk.i64_in _ (by omega)]; rfl
      have w_4 : IntKind.i64.wrap ((n : Int) + 1) = ((n + 1 : Nat) : Int) := by rw [IntWalk.i64_in _ (by omega)]; rfl
      obtain ⟨v, hv⟩ : ∃ v, e.ah.map (fun b => (⟨b, 0, none⟩ : Addr)) = v := ⟨_, rfl⟩
      obtain ⟨ps, cs, hsv⟩ := (hL.r.sent e (List.mem_of_getElem? he)).form
      simp only [Ent.list, hv, hsv] at rE
      clear hv hsv he hlv hL hbe
      go_wp2_with fail
      all_goals first
        | exact ⟨⟨k + 1, n + 1, by omega, by omega, by omega, by go_num, by go_num, Lib.hid (hup.out.trans (alloc_up _ _ _))⟩, by simp [intOf]; omega⟩
        | exact ⟨⟨k + 1, n, by omega, by omega, by omega, by go_num, rfl, Lib.hid (hup.out.trans (alloc_up _ _ _))⟩, by simp [intOf]; omega⟩
    · have hk2 : decide ((k : Int) < (es.length : Int)) = false := decide_eq_false (by omega)
      go_wp2
      go_ret
      exact ⟨hup.out, n, hn1, by omega, rfl⟩

/-- What may says. -/
def mayLog (es : List Ent) (stuck : Bool) (m : Msg) : Int :=
  if (match es.getLast? with | none => true | some x => befB x.m m) then (if stuck then 5 else 0) else 1
set_option maxHeartbeats 2000000 in
theorem logmay_any {a : Nat} {V : LogV} {E : Env} {i0 : Sta} {es : List Ent} {every : Nat} {stuck : Bool} {w : World} (h : LogIs w a V E i0 es every stuck) (hlen : es.length ≤ 16000) (m : Msg) (hm : okM m) (han : m.an = false) :
    Calls Tryz.prog 30 #[.pointer (some ⟨a, 0, none⟩), m.val, .int .i64 0] w fun e w' => Up w w' ∧ e = .returned (.int .i64 (mayLog es stuck m)) := by
  have HL := Lib.hid h
  have HM := Lib.hid hm
  clear h hm
  obtain ⟨mt, mf, ms, mto, mv, mu, man⟩ := m
  obtain rfl : man = false := han
  simp only [Msg.val]
  go_enter Tryz.func30, Tryz.ntmps30
  go_upto_region 1 with (fail)
  refine wp_alloc1 fun W hU hsz bM => ?_
  have hlast := Lib.hid (loglast_any (HL.out.up hU) (by omega))
  go_wp2_with fail
  refine hlast.out.mono ?_
  rintro e w2 ⟨hU2, hx⟩
  clear hlast
  have HC := Lib.hid (chkv_yes HM.out.c)
  rcases hx with ⟨h0, rfl⟩ | ⟨x, hx, rfl⟩
  · have HX := Lib.hid h0
    clear h0
    simp only [Msg.val, zeroMsg]
    go_upto_region 2 with (fail)
    refine wp_alloc1 fun W3 hU3 hsz3 bL => ?_
    have rM := (bM.up (hU2.trans hU3)).get
    go_wp2_with fail
    refine (evcheck_any ⟨mt, mf, ms, mto, mv, mu, false⟩ W3).mono ?_
    rintro e w4 ⟨rfl, hU4⟩
    rw [← HC.out]
    have rM := (bM.up ((hU2.trans hU3).trans hU4)).get
    have hL4 := HL.out.up (((hU.trans hU2).trans hU3).trans hU4)
    have rL := hL4.b.get
    obtain ⟨p, cap, hlv⟩ := hL4.r.lvs
    rw [logList, hlv] at rL
    have hd : decide ((16384 : Int) ≤ (es.length : Int)) = false := decide_eq_false (by omega)
    have hup4 := Lib.hid (((hU.trans hU2).trans hU3).trans hU4)
    clear hL4 hlv hU hU2 hU3 hU4 bM bL
    cases stuck
    · go_wp2
      go_ret
      exact ⟨hup4.out, by unfold mayLog; rw [HX.out]; rfl⟩
    · go_wp2
      go_ret
      exact ⟨hup4.out, by unfold mayLog; rw [HX.out]; rfl⟩
  · have HX := Lib.hid hx
    clear hx
    simp only [Msg.val]
    go_upto_region 2 with (fail)
    refine wp_alloc1 fun W3 hU3 hsz3 bL => ?_
    have rM := (bM.up (hU2.trans hU3)).get
    go_wp2_with fail
    refine (evcheck_any ⟨mt, mf, ms, mto, mv, mu, false⟩ W3).mono ?_
    rintro e w4 ⟨rfl, hU4⟩
    rw [← HC.out]
    have rM := (bM.up ((hU2.trans hU3).trans hU4)).get
    have rLL := (bL.up hU4).get
    go_wp2_with fail
    refine (before_any x.m ⟨mt, mf, ms, mto, mv, mu, false⟩ w4).mono ?_
    rintro e w5 ⟨rfl, hU5⟩
    have hL5 := HL.out.up ((((hU.trans hU2).trans hU3).trans hU4).trans hU5)
    have rL := hL5.b.get
    obtain ⟨p, cap, hlv⟩ := hL5.r.lvs
    rw [logList, hlv] at rL
    have hd : decide ((16384 : Int) ≤ (es.length : Int)) = false := decide_eq_false (by omega)
    have hup5 := Lib.hid ((((hU.trans hU2).trans hU3).trans hU4).trans hU5)
    clear hL5 hlv hU hU2 hU3 hU4 hU5 bM bL
    rcases hb : befB x.m ⟨mt, mf, ms, mto, mv, mu, false⟩ with _ | _
    · have HB := Lib.hid hb
      clear hb
      go_wp2
      go_ret
      exact ⟨hup5.out, by unfold mayLog; rw [HX.out]; simp only [HB.out]; rfl⟩
    · have HB := Lib.hid hb
      clear hb
      cases stuck
      · go_wp2
        go_ret
        exact ⟨hup5.out, by unfold mayLog; rw [HX.out]; simp only [HB.out]; rfl⟩
      · go_wp2
        go_ret
        exact ⟨hup5.out, by unfold mayLog; rw [HX.out]; simp only [HB.out]; rfl⟩
end Go.Proofs.YtalmjdlcogdpmaaGreatDoor

namespace Go.Proofs.YtalmjdlcogdpmaaGreatDoor
open Go.RowKit
attribute [local go_sem] upUpon_value upUpon_enter upUpon_skip upUpon_row ucUpon_value ucUpon_skip ucUpon_enter ucUpon_row

abbrev Ins.list (x : Ins) : List Value := [.int .i64 x.op, .int .i64 x.a, .int .i64 x.b, .int .i64 x.c]
abbrev Lnk.list (x : Lnk) : List Value := [.int .i64 x.fr, .int .i64 x.to, .int .i64 x.look, .bool x.loose]
def insCells (n : Nat) (p : Nat → Ins) : List Value := (List.range n).flatMap fun i => (p i).list
def lnkCells (n : Nat) (l : Nat → Lnk) : List Value := (List.range n).flatMap fun i => (l i).list
theorem insCells_length (n : Nat) (p : Nat → Ins) : (insCells n p).length = n * 4 := by unfold insCells; rw [flat_len _ 4 (fun _ => rfl)]; simp
theorem lnkCells_length (n : Nat) (l : Nat → Lnk) : (lnkCells n l).length = n * 4 := by unfold lnkCells; rw [flat_len _ 4 (fun _ => rfl)]; simp
theorem insCells_at {n : Nat} {p : Nat → Ins} {i r : Nat} (hi : i < n) (hr : r < 4) : (insCells n p)[i * 4 + r]? = (p i).list[r]? := by
  unfold insCells; rw [flat_get _ 4 (fun _ => rfl) _ _ _ hr, List.getElem?_range hi]; rfl
theorem lnkCells_at {n : Nat} {l : Nat → Lnk} {i r : Nat} (hi : i < n) (hr : r < 4) : (lnkCells n l)[i * 4 + r]? = (l i).list[r]? := by
  unfold lnkCells; rw [flat_get _ 4 (fun _ => rfl) _ _ _ hr, List.getElem?_range hi]; rfl
theorem Addr.add_none (b o j : Nat) : (⟨b, o, none⟩ : Addr).add j = ⟨b, o + j, none⟩ := Addr.add_mid b o j

theorem InsSlice.src {W : World} {pv : Option Addr} {np cv : Nat} {p : Nat → Ins} (h : InsSlice W (.slice pv np cv) np p) : SrcR W (.slice pv np cv) np (insCells np p) := by
  rcases h with ⟨b, o, cap, hv, hr⟩ | ⟨hv, h0⟩
  · injection hv with hv _ _
    subst hv
    refine .inr ⟨⟨b, o, none⟩, cv, rfl, fun j u hj => ?_⟩
    have hlt := (List.getElem?_eq_some_iff.1 hj).1
    rw [insCells_length] at hlt
    have hi : j / 4 < np := by omega
    have hjj : j = j / 4 * 4 + j % 4 := by omega
    rw [hjj, insCells_at hi (by omega)] at hj
    rw [Addr.add_none]
    obtain ⟨h0, h1, h2, h3⟩ := hr (j / 4) hi
    have hm : j % 4 = 0 ∨ j % 4 = 1 ∨ j % 4 = 2 ∨ j % 4 = 3 := by omega
    rcases hm with hm | hm | hm | hm <;> rw [hm] at hj hjj <;> simp at hj <;> subst hj
    · rw [show o + j = o + j / 4 * 4 by omega]; exact h0
    · rw [show o + j = o + j / 4 * 4 + 1 by omega]; exact h1
    · rw [show o + j = o + j / 4 * 4 + 2 by omega]; exact h2
    · rw [show o + j = o + j / 4 * 4 + 3 by omega]; exact h3
  · injection hv with hv _ hc
    subst hv
    exact .inl ⟨cv, by rw [h0], h0, by rw [h0]; rfl⟩
theorem LnkSlice.src {W : World} {pv : Option Addr} {np cv : Nat} {p : Nat → Lnk} (h : LnkSlice W (.slice pv np cv) np p) : SrcR W (.slice pv np cv) np (lnkCells np p) := by
  rcases h with ⟨b, o, cap, hv, hr⟩ | ⟨hv, h0⟩
  · injection hv with hv _ _
    subst hv
    refine .inr ⟨⟨b, o, none⟩, cv, rfl, fun j u hj => ?_⟩
    have hlt := (List.getElem?_eq_some_iff.1 hj).1
    rw [lnkCells_length] at hlt
    have hi : j / 4 < np := by omega
    have hjj : j = j / 4 * 4 + j % 4 := by omega
    rw [hjj, lnkCells_at hi (by omega)] at hj
    rw [Addr.add_none]
    obtain ⟨h0, h1, h2, h3⟩ := hr (j / 4) hi
    have hm : j % 4 = 0 ∨ j % 4 = 1 ∨ j % 4 = 2 ∨ j % 4 = 3 := by omega
    rcases hm with hm | hm | hm | hm <;> rw [hm] at hj hjj <;> simp at hj <;> subst hj
    · rw [show o + j = o + j / 4 * 4 by omega]; exact h0
    · rw [show o + j = o + j / 4 * 4 + 1 by omega]; exact h1
    · rw [show o + j = o + j / 4 * 4 + 2 by omega]; exact h2
    · rw [show o + j = o + j / 4 * 4 + 3 by omega]; exact h3
  · injection hv with hv _ hc
    subst hv
    exact .inl ⟨cv, by rw [h0], h0, by rw [h0]; rfl⟩
theorem InsSlice.of_own {W : World} {e : TypeId} {v : Value} {n : Nat} {p : Nat → Ins} (h : OwnR W e 4 v n (insCells n p)) : InsSlice W v n p := by
  rcases h.is with ⟨h1, h2⟩ | ⟨g, cap, hv, _⟩
  · exact .inr ⟨h1, h2⟩
  · refine .inl ⟨g, 0, cap, hv, fun i hi => ?_⟩
    have c := fun r hr u (hu : (p i).list[r]? = some u) => h.cell (g := g) (by rw [hv]; rfl) (i * 4 + r) u (by rw [insCells_at hi hr]; exact hu)
    exact ⟨by have := c 0 (by omega) _ rfl; simpa using this, by have := c 1 (by omega) _ rfl; simpa using this, by have := c 2 (by omega) _ rfl; simpa using this, by have := c 3 (by omega) _ rfl; simpa using this⟩
theorem LnkSlice.of_own {W : World} {e : TypeId} {v : Value} {n : Nat} {p : Nat → Lnk} (h : OwnR W e 4 v n (lnkCells n p)) : LnkSlice W v n p := by
  rcases h.is with ⟨h1, h2⟩ | ⟨g, cap, hv, _⟩
  · exact .inr ⟨h1, h2⟩
  · refine .inl ⟨g, 0, cap, hv, fun i hi => ?_⟩
    have c := fun r hr u (hu : (p i).list[r]? = some u) => h.cell (g := g) (by rw [hv]; rfl) (i * 4 + r) u (by rw [lnkCells_at hi hr]; exact hu)
    exact ⟨by have := c 0 (by omega) _ rfl; simpa using this, by have := c 1 (by omega) _ rfl; simpa using this, by have := c 2 (by omega) _ rfl; simpa using this, by have := c 3 (by omega) _ rfl; simpa using this⟩
theorem infoIns : (Tryz.prog.info? 123).map (fun i => (i.zero, i.size, i.bytes)) = some (some (.agg #[.int .i64 0, .int .i64 0, .int .i64 0, .int .i64 0]), 4, 32) := by kernel_rfl
theorem infoLnk : (Tryz.prog.info? 71).map (fun i => (i.zero, i.size, i.bytes)) = some (some (.agg #[.int .i64 0, .int .i64 0, .int .i64 0, .bool false]), 4, 32) := by kernel_rfl

/-- The state at the start. -/
def zeroSta : Sta := ⟨fun _ => 0, 0, 0⟩
theorem zeroSta_good : GoodK 0 zeroSta := ⟨fun _ => ⟨by simp [zeroSta], by simp [zeroSta]⟩, by simp [zeroSta], by simp [zeroSta], by simp [zeroSta], by simp [zeroSta]⟩

set_option maxHeartbeats 2000000 in
/-- A world that may not be. -/
theorem lognew_bad (vp vl : Value) (E : Env) (n : Nat) (w : World) (hp : InsSlice w vp E.np E.p) (hl : LnkSlice w vl E.nl E.l) (hbad : ¬ okE E) :
    Calls Tryz.prog 4 #[.agg #[vp, .int .i64 E.me, vl, .int .u64 E.seed], zeroSta.val, .int .i64 n] w fun e w' => Up w w' ∧ e = .returned (.tuple #[.pointer none, .int .i64 (vmErr E.np E.p E.me E.nl E.l)]) := by
  obtain ⟨c, hc⟩ : ∃ c, vmErr E.np E.p E.me E.nl E.l = c := ⟨_, rfl⟩
  have hc0 : c ≠ 0 := by rw [← hc]; exact hbad
  have hcn : (c != 0) = true := by simp [hc0]
  have HP := Lib.hid (And.intro hp (And.intro hl hc))
  rw [hc]
  clear hp hl hc hbad
  simp only [Sta.val, Sta.cells, zeroSta]
  go_enter Tryz.func4, Tryz.ntmps4
  go_upto_region 1 with (fail)
  refine wp_alloc2 fun W hU hs bW bS => ?_
  have rW := bW.get
  go_wp2_with fail
  refine (vmcheck_any vp vl E.me E.seed E.np E.nl E.p E.l W (HP.out.1.up hU) (HP.out.2.1.up hU)).mono ?_
  rintro e w3 ⟨rfl, hU3⟩
  rw [HP.out.2.2]
  go_wp2
  go_ret2
  exact ⟨hU.trans hU3, rfl⟩

theorem ins_one (n : Nat) (p : Nat → Ins) : ∀ u ∈ insCells n p, u.oneCell' = true := by
  intro u hu
  obtain ⟨i, _, hm⟩ := List.mem_flatMap.1 hu
  simp [Ins.list] at hm; rcases hm with rfl | rfl | rfl | rfl <;> rfl
theorem lnk_one (n : Nat) (p : Nat → Lnk) : ∀ u ∈ lnkCells n p, u.oneCell' = true := by
  intro u hu
  obtain ⟨i, _, hm⟩ := List.mem_flatMap.1 hu
  simp [Lnk.list] at hm; rcases hm with rfl | rfl | rfl | rfl <;> rfl

set_option maxRecDepth 100000 in
set_option maxHeartbeats 2000000 in
theorem lognew_ok (vp vl : Value) (E : Env) (n : Nat) (hn1 : 1 ≤ n) (hn2 : n ≤ 1024) (w : World) (hp : InsSlice w vp E.np E.p) (hl : LnkSlice w vl E.nl E.l) (hok : okE E)
    (hg : w.cell? ⟨0, 0, none⟩ = some (.iface 151 (.agg #[.pointer (some ⟨1, 96, none⟩)]))) :
    Calls Tryz.prog 4 #[.agg #[vp, .int .i64 E.me, vl, .int .u64 E.seed], zeroSta.val, .int .i64 n] w fun e w' => Up w w' ∧ ∃ a V, e = .returned (.tuple #[.pointer (some ⟨a, 0, none⟩), .int .i64 0]) ∧ LogIs w' a V E zeroSta [] n false ∧ ∀ k, foot a V E [] k → k = 0 ∨ w.heap.size ≤ k := by
  obtain ⟨hnp, _, _, hnl, _⟩ := vmErr_zero hok
  obtain ⟨pv, cv, rfl⟩ : ∃ pv cv, vp = .slice pv E.np cv := by
    rcases hp with ⟨b, o, cap, hv, _⟩ | ⟨hv, h0⟩
    · exact ⟨_, _, hv⟩
    · exact ⟨none, 0, by rw [hv, h0]⟩
  obtain ⟨pl, cl, rfl⟩ : ∃ pl cl, vl = .slice pl E.nl cl := by
    rcases hl with ⟨b, o, cap, hv, _⟩ | ⟨hv, h0⟩
    · exact ⟨_, _, hv⟩
    · exact ⟨none, 0, by rw [hv, h0]⟩
  obtain ⟨i0, hi0, hz0, hz1, hz2⟩ := info_parts infoIns
  obtain ⟨j0, hj0, hy0, hy1, hy2⟩ := info_parts infoLnk
  have HP := Lib.hid (And.intro hp (And.intro hl (And.intro hok hg)))
  have HI := Lib.hid (And.intro (And.intro hi0 (And.intro hz0 (And.intro hz1 hz2))) (And.intro hj0 (And.intro hy0 (And.intro hy1 hy2))))
  have hd1 : decide ((n : Int) < 1) = false := decide_eq_false (by omega)
  have hd2 : decide ((1024 : Int) < (n : Int)) = false := decide_eq_false (by omega)
  clear hp hl hok hg hi0 hz0 hz1 hz2 hj0 hy0 hy1 hy2
  simp only [Sta.val, Sta.cells, zeroSta]
  go_enter Tryz.func4, Tryz.ntmps4
  go_upto_region 1 with (fail)
  refine wp_alloc2 fun W hU hs bW bS => ?_
  have rW := bW.get
  go_wp2_with fail
  refine (vmcheck_any (.slice pv E.np cv) (.slice pl E.nl cl) E.me E.seed E.np E.nl E.p E.l W (HP.out.1.up hU) (HP.out.2.1.up hU)).mono ?_
  rintro e w3 ⟨rfl, hU3⟩
  rw [HP.out.2.2.1]
  have bS3 := bS.up hU3
  have bW3 := bW.up hU3
  have rS := bS3.get
  clear rW
  go_upto_region 6 with (fail)
  have rW := bW3.get
  have hU03 := hU.trans hU3
  apply wp_region_lit
  refine wpList_plain rfl fun K hK => ?_
  go_simp
  refine hK _ _ ?_
  clear hK K
  refine wpList_plain rfl fun K hK => ?_
  go_simp
  refine hK _ _ ?_
  clear hK K
  refine wpList_append_chg rfl (.const (.slice none 0 0)) (.tmp 37) 22 rfl 123 i0 _ 4 32 Tryz.underlying22 HI.out.1.1 HI.out.1.2.1 HI.out.1.2.2.1 HI.out.1.2.2.2 rfl (by decide) (.slice none 0 0) 0 [] rfl (OwnR.nil w3 _ _) (.slice pv E.np cv) E.np (insCells E.np E.p) rfl (insCells_length _ _) (HP.out.1.up hU03).src (ins_one _ _) (by unfold maxLen; omega) (by omega) ?_
  intro v4 w4 hown4 hchg4 hnew4
  rw [Nat.zero_add, List.nil_append] at hown4
  have hU4 : Up w3 w4 := hchg4.up_nil rfl
  obtain ⟨p4, c4, rfl⟩ := hown4.form
  have bW4 := bW3.up hU4
  have rW := bW4.get
  have hFW : w4.frozen? ⟨w.heap.size, 0, none⟩ = false := new_free w (.map #[] 0) (hU03.trans hU4) 0 _ (Nat.le_refl _)
  have bW5 := bW4.set 0 (.slice p4 E.np c4) (by simp)
  have c5 : Chg (· = w.heap.size) w4 (w4.setCell ⟨w.heap.size, 0, none⟩ (.slice p4 E.np c4)) := Chg.setCell (S := (· = w.heap.size)) (p := ⟨w.heap.size, 0, none⟩) (Chg.refl _ _) (Or.inl rfl) _
  have hnew4' : ∀ k, sameBlock (.slice p4 E.np c4) k → W.heap.size ≤ k := fun k hk => by
    rcases hnew4 k hk with h1 | h1
    · simp [sameBlock, Value.ownBlock] at h1
    · exact Nat.le_trans hU3.1.size h1
  have own5 := hown4.chg c5 (fun k hk e => by have := hnew4' k hk; omega)
  have bS5 := (bS3.up hU4).chg c5 (fun e => by omega)
  have hU5 : Up w (w4.setCell ⟨w.heap.size, 0, none⟩ (.slice p4 E.np c4)) := ((Chg.of_up (hU03.trans hU4)).trans c5 (fun _ _ e => e)).to_up fun k hk e => by omega
  have H5 := Lib.hid (And.intro bW5 (And.intro own5 (And.intro bS5 (And.intro hU5 hnew4'))))
  clear bW5 own5 bS5 hU5 hnew4' hnew4 hchg4 hown4 bW4 c5
  go_upto_region 7 with (fail)
  generalize (w4.setCell ⟨w.heap.size, 0, none⟩ (.slice p4 E.np c4)) = W5 at *
  clear rW hFW
  have rW := H5.out.1.get
  simp only [List.set_cons_zero] at rW
  apply wp_region_lit
  refine wpList_plain rfl fun K hK => ?_
  go_simp
  refine hK _ _ ?_
  clear hK K
  refine wpList_plain rfl fun K hK => ?_
  go_simp
  refine hK _ _ ?_
  clear hK K
  refine wpList_append_chg rfl (.const (.slice none 0 0)) (.tmp 41) 23 rfl 71 j0 _ 4 32 Tryz.underlying23 HI.out.2.1 HI.out.2.2.1 HI.out.2.2.2.1 HI.out.2.2.2.2 rfl (by decide) (.slice none 0 0) 0 [] rfl (OwnR.nil W5 _ _) (.slice pl E.nl cl) E.nl (lnkCells E.nl E.l) rfl (lnkCells_length _ _) (HP.out.2.1.up H5.out.2.2.2.1).src (lnk_one _ _) (by unfold maxLen; omega) (by omega) ?_
  intro v6 w6 hown6 hchg6 hnew6
  rw [Nat.zero_add, List.nil_append] at hown6
  have hU6 : Up W5 w6 := hchg6.up_nil rfl
  obtain ⟨p6, c6, rfl⟩ := hown6.form
  have bW6 := H5.out.1.up hU6
  simp only [List.set_cons_zero] at bW6
  have rW := bW6.get
  have hFW : w6.frozen? ⟨w.heap.size, 2, none⟩ = false := new_free w (.map #[] 0) (H5.out.2.2.2.1.trans hU6) 2 _ (Nat.le_refl _)
  have bW7 := bW6.set 2 (.slice p6 E.nl c6) (by simp)
  simp only [List.set_cons_succ, List.set_cons_zero] at bW7
  have c7 : Chg (· = w.heap.size) w6 (w6.setCell ⟨w.heap.size, 2, none⟩ (.slice p6 E.nl c6)) := Chg.setCell (S := (· = w.heap.size)) (p := ⟨w.heap.size, 2, none⟩) (Chg.refl _ _) (Or.inl rfl) _
  have hnew6' : ∀ k, sameBlock (.slice p6 E.nl c6) k → w.heap.size < k := fun k hk => by
    rcases hnew6 k hk with h1 | h1
    · simp [sameBlock, Value.ownBlock] at h1
    · have := bW6.lt (by simp); have := H5.out.1.lt (by simp); omega
  have own7 := hown6.chg c7 (fun k hk e => by have := hnew6' k hk; omega)
  have ownI7 := (H5.out.2.1.up hU6).chg c7 (fun k hk e => by have := H5.out.2.2.2.2 k hk; omega)
  have bS7 := (H5.out.2.2.1.up hU6).chg c7 (fun e => by omega)
  have hU7 : Up w (w6.setCell ⟨w.heap.size, 2, none⟩ (.slice p6 E.nl c6)) := ((Chg.of_up (H5.out.2.2.2.1.trans hU6)).trans c7 (fun _ _ e => e)).to_up fun k hk e => by omega
  have H7 := Lib.hid (And.intro bW7 (And.intro own7 (And.intro ownI7 (And.intro bS7 (And.intro hU7 hnew6')))))
  clear bW7 own7 ownI7 bS7 hU7 hnew6' hnew6 hchg6 hown6 bW6 c7
  go_upto_region 8 with (fail)
  generalize (w6.setCell ⟨w.heap.size, 2, none⟩ (.slice p6 E.nl c6)) = W7 at *
  clear rW hFW rS
  have rW := H7.out.1.get
  have rS := H7.out.2.2.2.1.get
  go_wp2
  go_ret2
  obtain ⟨z1, z2, z3, z4, z5, z6⟩ := H7.out
  obtain ⟨A, hA⟩ : ∃ A, W7.heap.size = A := ⟨_, rfl⟩
  have bA := Blk.alloc W7 (logList ⟨p4, p6, c4, c6, .slice none 0 0⟩ E zeroSta n false) 62
  have hUA : Up W7 (W7.alloc (.cells (logList ⟨p4, p6, c4, c6, .slice none 0 0⟩ E zeroSta n false).toArray 62)) := alloc_up _ _ _
  have hIA := z3.up hUA
  have hLA := z2.up hUA
  have hge : w.heap.size ≤ W7.heap.size := z5.1.size
  refine ⟨z5.trans (alloc_up _ _ _), W7.heap.size, ⟨p4, p6, c4, c6, .slice none 0 0⟩, rfl, ?_, ?_⟩
  · have hfz : ∀ j, (W7.alloc (.cells (logList ⟨p4, p6, c4, c6, .slice none 0 0⟩ E zeroSta n false).toArray 62)).frozen? ⟨W7.heap.size, j, none⟩ = false := fun j => new_free W7 (.map #[] 0) hUA j _ (Nat.le_refl _)
    have hnf : ¬ firm ⟨p4, p6, c4, c6, .slice none 0 0⟩ E [] W7.heap.size := by
      rintro (hk | hk | hk | ⟨e, he, _⟩)
      · have := z3.block_lt _ hk; omega
      · have := z2.block_lt _ hk; omega
      · have := World.block_lt_of_cell? w _ HP.out.2.2.2; simp at this; omega
      · cases he
    refine ⟨⟨⟨fun i hi => ?_⟩, bA.at (i := 16) rfl, OwnR.nil _ _ _, InsSlice.of_own hIA, LnkSlice.of_own hLA, fun k hk => hIA.block_lt k hk, fun k hk => hLA.block_lt k hk, cell_up (z5.trans hUA) HP.out.2.2.2, fun k e b hk => by simp at hk, fun e he => by cases he⟩, bA, hfz, by simp [sameBlock, Value.ownBlock], hnf, fun k hk => by simp [sameBlock, Value.ownBlock] at hk⟩
    have := bA.get i (by simp at hi ⊢; omega)
    refine this.trans ?_
    rcases i with _ | _ | _ | _ | i <;> first | rfl | (simp only [List.length_cons, List.length_nil] at hi; omega)
  · rintro k (rfl | hk | hk | hk | hk | ⟨e, he, _⟩)
    · exact .inr hge
    · simp [sameBlock, Value.ownBlock] at hk
    · exact .inr (by have := H5.out.2.2.2.2 k hk; omega)
    · exact .inr (by have := z6 k hk; omega)
    · exact .inl hk
    · cases he
end Go.Proofs.YtalmjdlcogdpmaaGreatDoor

namespace Go.Proofs.YtalmjdlcogdpmaaGreatDoor

/-- Is the last one stuck? -/
def stuckOf (es : List Ent) : Bool := match es.getLast? with | none => false | some x => x.f != 0
/-- What holds of the entries done and of what waits; A: all that has been pushed. -/
structure Plain (A : List Msg) (es : List Ent) (Q : List Msg) : Prop where
  perm : (es.map Ent.m ++ Q).Perm A
  srt : (es.map Ent.m).Pairwise fun a b => befB a b = true
  ahead : ∀ e ∈ es, ∀ x ∈ Q, befB e.m x = true
  zero : ∀ k e, es[k]? = some e → k + 1 < es.length → e.f = 0
/-- What holds of the messages. -/
structure Good (A : List Msg) : Prop where
  ok : ∀ m ∈ A, okM m ∧ m.an = false ∧ ∃ t : Nat, m.t = t ∧ t ≤ 29
  u : A.Pairwise fun a b => a.u ≠ b.u
  len : A.length ≤ 40
/-- One step: the least is done, or the log is stuck. -/
def Step (es : List Ent) (Q : List Msg) (es' : List Ent) (Q' : List Msg) : Prop :=
  (stuckOf es = true ∧ es' = es ∧ Q' = Q) ∨ (stuckOf es = false ∧ ∃ x, es' = es ++ [x] ∧ (x.m :: Q').Perm Q)
section
variable {A Q Q' : List Msg} {es : List Ent} {m m' : Msg}
theorem Plain.mem (p : Plain A es Q) (h : m ∈ Q) : m ∈ A := p.perm.mem_iff.1 (List.mem_append_right _ h)
theorem Plain.memE (p : Plain A es Q) {e : Ent} (h : e ∈ es) : e.m ∈ A := p.perm.mem_iff.1 (List.mem_append_left _ (List.mem_map.2 ⟨e, h, rfl⟩))
theorem Plain.len (p : Plain A es Q) (g : Good A) : es.length + Q.length ≤ 40 := by
  have := p.perm.length_eq
  have := g.len
  simp at *
  omega
theorem pair_u {l : List Msg} (h : l.Pairwise fun a b => a.u ≠ b.u) : ∀ x ∈ l, ∀ y ∈ l, x.u = y.u → x = y := by
  induction l with
  | nil => simp
  | cons a r ih =>
    obtain ⟨h1, h2⟩ := List.pairwise_cons.1 h
    intro x hx y hy hu
    rcases List.mem_cons.1 hx with ex | hx' <;> rcases List.mem_cons.1 hy with ey | hy'
    · rw [ex, ey]
    · exact absurd (ex ▸ hu) (h1 _ hy')
    · exact absurd (ey ▸ hu).symm (h1 _ hx')
    · exact ih h2 x hx' y hy' hu
theorem Good.one (g : Good A) (h : m ∈ A) (h' : m' ∈ A) (h1 : befB m m' = false) (h2 : befB m' m = false) : m = m' :=
  pair_u g.u m h m' h' (bef_total h1 h2).2.2.2
theorem Plain.nodup (p : Plain A es Q) (g : Good A) : (es.map Ent.m ++ Q).Pairwise fun a b => a.u ≠ b.u := (p.perm.pairwise_iff (fun {_ _} h => Ne.symm h)).2 g.u
/-- The log's answer. -/
theorem Plain.may (p : Plain A es Q) (h : m ∈ Q) : mayLog es (stuckOf es) m = if stuckOf es then 5 else 0 := by
  unfold mayLog
  rw [if_pos ?_]
  cases hl : es.getLast? with
  | none => rfl
  | some x => exact p.ahead x (List.mem_of_getLast? hl) m h
theorem Plain.step (p : Plain A es Q) (g : Good A) {x : Ent} (hs : stuckOf es = false) (hQ : (x.m :: Q').Perm Q) (hl : ∀ y ∈ Q, befB y x.m = false) : Plain A (es ++ [x]) Q' := by
  have hx : x.m ∈ Q := hQ.mem_iff.1 (by simp)
  have hnd : (x.m :: Q').Pairwise fun a b => a.u ≠ b.u := (hQ.pairwise_iff (fun {_ _} h => Ne.symm h)).2 (List.pairwise_append.1 (p.nodup g)).2.1
  refine ⟨?_, ?_, ?_, ?_⟩
  · rw [List.map_append, List.append_assoc]
    exact ((hQ.append_left _)).trans p.perm
  · rw [List.map_append, List.pairwise_append]
    refine ⟨p.srt, by simp, fun a ha b hb => ?_⟩
    obtain ⟨e, he, rfl⟩ := List.mem_map.1 ha
    simp at hb
    subst hb
    exact p.ahead e he _ hx
  · intro e he y hy
    have hyQ : y ∈ Q := hQ.mem_iff.1 (List.mem_cons_of_mem _ hy)
    rcases List.mem_append.1 he with h | h
    · exact p.ahead e h y hyQ
    · simp at h
      subst h
      exact bef_of_ne (hl y hyQ) (fun e => (List.pairwise_cons.1 hnd).1 y hy e)
  · intro k e hk hlt
    rw [List.length_append, List.length_singleton] at hlt
    rw [List.getElem?_append_left (by omega)] at hk
    rcases Nat.lt_or_ge (k + 1) es.length with h | h
    · exact p.zero k e hk h
    · have hke : k = es.length - 1 := by omega
      have h2 : es.getLast? = some e := by rw [List.getLast?_eq_getElem?, ← hke]; exact hk
      unfold stuckOf at hs
      rw [h2] at hs
      simpa using hs
theorem stuckOf_snoc (x : Ent) : stuckOf (es ++ [x]) = (x.f != 0) := by simp [stuckOf]
end
end Go.Proofs.YtalmjdlcogdpmaaGreatDoor

namespace Go.Proofs.YtalmjdlcogdpmaaGreatDoor
open Go.RowKit
attribute [local go_sem] upUpon_value upUpon_enter upUpon_skip upUpon_row ucUpon_value ucUpon_skip ucUpon_enter ucUpon_row

theorem vmRun_o8 {E : Env} {m : Msg} (h : okE E) (hm : okM m) {s : Sta} (hs : GoodSta s) : (vmRun (envOf E m) s).o.length ≤ 8 := by
  obtain ⟨_, hp, _⟩ := vmErr_zero h
  unfold vmRun
  split
  · rename_i t ht; exact (runF_good (goodE_of h hm) hp 4096 _ _ (start_good hs) ht).o
  · simp

set_option maxHeartbeats 1000000 in
/-- had, where nothing is kept. -/
theorem had_none (m : Msg) (K : Nat) (w : World) (hK : w.cell? ⟨K, 0, none⟩ = some (.slice none 0 0)) :
    Calls Tryz.prog 47 #[m.val, .pointer (some ⟨K, 0, none⟩)] w fun e w' => Up w w' ∧ e = .returned (.tuple #[.int .i64 0, .bool false]) := by
  simp only [Msg.val]
  go_enter Tryz.func47, Tryz.ntmps47
  go_upto_region 1 with (fail)
  refine wp_alloc1 fun W hU hsz bM => ?_
  have hK := cell_up hU hK
  go_wp2_with fail
  go_loopw [9] (fun v wr => v = .int .i64 0 ∧ wr = W) (fun _ _ => 0)
  case atStart => exact ⟨rfl, rfl⟩
  case round =>
    obtain ⟨rfl, rfl⟩ := hrel
    go_wp2
    go_ret2
    exact ⟨hU, rfl⟩

theorem append_nils (t ty e : TypeId) (i : TypeInfo) (ht : Tryz.prog.underlying t = some (.slice e)) (hi : Tryz.prog.info? e = some i) (W : World) :
    (Builtin.append_ #[t, t] ty #[.slice none 0 0, .slice none 0 0]).run Tryz.prog W = .ok (.slice none 0 0) W := by
  simp [Builtin.append_, run_underlying ht, sizeOf, typeInfo, hi, Builtin.lenOf, Builtin.firstCells, loadCells, loadCellsFrom]

set_option maxRecDepth 100000 in
set_option maxHeartbeats 2000000 in
theorem logrun_any {a : Nat} {V : LogV} {E : Env} {i0 : Sta} {es : List Ent} {every : Nat} {stuck : Bool} {w : World} (h : LogIs w a V E i0 es every stuck) (hok : okE E) (m : Msg) (hm : okM m)
    (s : Sta) (hs : stOf E i0 (es.map Ent.m) = s) (hgs : GoodSta s) :
    Calls Tryz.prog 31 #[.pointer (some ⟨a, 0, none⟩), m.val, .int .i64 0, .slice none 0 0] w fun e w' => Up w w' ∧ ∃ sv sent, sent.length = (vmRun (envOf E m) s).o.length ∧
      e = .returned (.tuple #[.agg (Ent.list ⟨m, (vmRun (envOf E m) s).f, sv, sent, none⟩).toArray, (nextS E s m).val]) ∧ OwnR w' 43 7 sv sent.length (msgCells sent) ∧ ∀ k, sameBlock sv k → w.heap.size ≤ k := by
  have HL := Lib.hid h
  have HG := Lib.hid (And.intro hok (And.intro hm (And.intro hs hgs)))
  clear h hok hm hs hgs
  obtain ⟨f, hf⟩ : ∃ f, (vmRun (envOf E m) s).f = f := ⟨_, rfl⟩
  obtain ⟨o, ho⟩ : ∃ o, (vmRun (envOf E m) s).o = o := ⟨_, rfl⟩
  obtain ⟨s', hs'⟩ : ∃ s', nextS E s m = s' := ⟨_, rfl⟩
  rw [hf, ho, hs']
  have HV := Lib.hid (And.intro hf (And.intro ho hs'))
  clear hf ho hs'
  simp only [Msg.val]
  go_enter Tryz.func31, Tryz.ntmps31
  go_upto_region 1 with (fail)
  refine wp_alloc4 fun W1 hU1 hs1 bM bK bD bS => ?_
  have hL1 := HL.out.up hU1
  have HB := Lib.hid (And.intro bM (And.intro bK (And.intro bD bS)))
  have kM := bM.lift
  have kL := hL1.b.lift
  rw [logList, HG.out.2.2.1] at kL
  clear bM bK bD bS hL1
  go_cut [10, 11, 12] from 18 to 31 (fun v10 v11 v12 wx => ∃ B : Nat, v10 = .pointer (some ⟨B, 0, none⟩) ∧ v12 = .int .i64 f ∧ Hid (Up W1 wx) ∧ Hid (Blk wx B s'.list) ∧ W1.heap.size ≤ B ∧ Hid (OwnR wx 146 3 v11 o.length (outCells o)) ∧ Hid (∀ k, sameBlock v11 k → W1.heap.size ≤ k))
  case first =>
    refine region_plan [12, 13] (.head [0, 1, 2, 3, 4, 5, 6, 7, 8] (.two 9 (.head [10, 11, 12, 13] (.one 14 .done)) 14 (.one 9 (.head [10, 11, 12, 13] .done)))) 15 [16, 17] (by kernel_rfl) (by kernel_rfl) (fun d _ _ _ _ h => by cases d <;> exact h) ?_
    refine plan_head ?_
    simp only [getOps, List.getElem?_cons_zero, List.getElem?_cons_succ]
    repeat (apply wpUp_step rfl rfl; (focus (intro W hU; go_simp; exact ⟨rfl, Up.refl _⟩)); go_simp)
    refine wpUp_nil fun W2 hW2 => ?_
    clear kM kL
    have hU2 : Up W1 W2 := up_drew.trans hW2
    have call : ∀ W, Up W2 W → Calls Tryz.prog 42 #[.agg #[.slice V.pv E.np V.cv, .int .i64 E.me, .slice V.pl E.nl V.cl, .int .u64 E.seed], s.val, m.val] W fun e w' => ∃ vo, e = .returned (.tuple #[s'.val, vo, .int .i64 f]) ∧ Up W w' ∧ OwnR w' 146 3 vo o.length (outCells o) ∧ (∀ k, sameBlock vo k → W1.heap.size ≤ k) ∧ ∀ k, sameBlock vo k → W.heap.size ≤ k := fun W hW => by
      have hLr := (HL.out.up ((hU1.trans hU2).trans hW)).r
      refine (vmrun_any V.pv V.pl V.cv V.cl (envOf E m) (goodE_of HG.out.1 HG.out.2.1) HG.out.1 s HG.out.2.2.2 HG.out.2.1.c W hLr.g hLr.ins hLr.lnk hLr.lnkb hLr.insb).mono ?_
      rintro e w' ⟨vo, rfl, hU, hov, hb⟩
      refine ⟨vo, ?_, hU, ?_, fun k hk => Nat.le_trans (hU2.trans hW).1.size (hb k hk), hb⟩
      · rw [← HV.out.1, ← HV.out.2.2]; rfl
      · rw [← HV.out.2.1]; exact hov
    have HC := Lib.hid call
    clear call
    refine plan_two rfl rfl rfl rfl (fun W hW K hK => ?_) (fun W hW K hK => ?_)
    · go_simp
      refine (HC.out W hW).mono ?_
      rintro e W3 ⟨vo, rfl, hU3, hov, hnb, _⟩
      refine ⟨_, rfl, hU3, hK _ _ ?_⟩
      clear hK K
      refine plan_head ?_
      simp only [getOps, List.getElem?_cons_zero, List.getElem?_cons_succ]
      repeat (first | (apply wpUp_pure rfl; (focus (intro W; go_simp; rfl))) | (apply wpUp_step rfl rfl; (focus (intro W hU; go_simp; exact ⟨rfl, Up.refl _⟩))); go_simp)
      refine wpUp_nil fun W4 hW4 => ?_
      refine plan_one rfl rfl fun W5 hW5 K hK => ?_
      go_simp
      refine ⟨alloc_up _ _ _, hK _ _ ?_⟩
      clear hK K
      refine plan_done fun W6 hW6 => ?_
      have bN := (Blk.alloc W5 [.int .i64 0, .int .i64 0, .int .i64 0, .int .i64 0, .int .i64 0, .int .i64 0, .int .i64 0, .int .i64 0, .int .i64 0, .int .i64 0] 34).up hW6
      have hU6 : Up W1 W6 := (((((hU2.trans hW).trans hU3).trans hW4).trans hW5).trans (alloc_up _ _ _)).trans hW6
      have hov6 := hov.up (((hW4.trans hW5).trans (alloc_up _ _ _)).trans hW6)
      obtain ⟨B, hB⟩ : ∃ B, W5.heap.size = B := ⟨_, rfl⟩
      have hBge : W1.heap.size ≤ B := by rw [← hB]; exact ((((hU2.trans hW).trans hU3).trans hW4).trans hW5).1.size
      have hne : ∀ k, sameBlock vo k → k ≠ B := fun k hk e => by
        have h1 := hov.block_lt k hk
        have h2 := (hW4.trans hW5).1.size
        omega
      rw [hB] at bN ⊢
      have rN := bN.get
      have hFN : ∀ j, W6.frozen? ⟨B, j, none⟩ = false := fun j => new_free W1 (.map #[] 0) hU6 j _ hBge
      have bN2 := Blk.sets s'.list 0 bN (by simp)
      have hch := Chg.setCells (S := (· = B)) (a := W6) (b := B) (Or.inl rfl) s'.list 0 (Chg.refl _ W6)
      have hU7 : Up W1 (W6.setCells B 0 s'.list) := ((Chg.of_up hU6).trans hch (fun _ _ h => h)).to_up fun k hk e => by omega
      have H7 := Lib.hid (And.intro hU7 (And.intro bN2 (hov6.chg hch fun k hk e => hne k hk e)))
      have HN := Lib.hid hnb
      simp only [getOps, List.getElem?_cons_zero, List.getElem?_cons_succ]
      clear hch hU7 bN2 hov6 bN hov hne hnb
      go_wp2
      go_meet
      case rel => exact ⟨B, rfl, rfl, Lib.hid H7.out.1, Lib.hid H7.out.2.1, hBge, Lib.hid H7.out.2.2, Lib.hid HN.out⟩
    · go_simp
      refine ⟨alloc_up _ _ _, hK _ _ ?_⟩
      clear hK K
      refine plan_one rfl rfl fun W3 hW3 K hK => ?_
      go_simp
      refine (HC.out W3 ((hW.trans (alloc_up _ _ _)).trans hW3)).mono ?_
      rintro e W4 ⟨vo, rfl, hU4, hov, hnb, hne0⟩
      refine ⟨_, rfl, hU4, hK _ _ ?_⟩
      clear hK K
      refine plan_head ?_
      simp only [getOps, List.getElem?_cons_zero, List.getElem?_cons_succ]
      repeat (first | (apply wpUp_pure rfl; (focus (intro W; go_simp; rfl))) | (apply wpUp_step rfl rfl; (focus (intro W hU; go_simp; exact ⟨rfl, Up.refl _⟩))); go_simp)
      refine wpUp_nil fun W5 hW5 => ?_
      refine plan_done fun W6 hW6 => ?_
      have bN := (Blk.alloc W [.int .i64 0, .int .i64 0, .int .i64 0, .int .i64 0, .int .i64 0, .int .i64 0, .int .i64 0, .int .i64 0, .int .i64 0, .int .i64 0] 34).up (((hW3.trans hU4).trans hW5).trans hW6)
      have hU6 : Up W1 W6 := (((((hU2.trans hW).trans (alloc_up _ _ _)).trans hW3).trans hU4).trans hW5).trans hW6
      have hov6 := hov.up (hW5.trans hW6)
      obtain ⟨B, hB⟩ : ∃ B, W.heap.size = B := ⟨_, rfl⟩
      have hBge : W1.heap.size ≤ B := by rw [← hB]; exact (hU2.trans hW).1.size
      have hne : ∀ k, sameBlock vo k → k ≠ B := fun k hk e => by
        have h1 := hne0 k hk
        have h3 := hW3.1.size
        rw [World.size_alloc] at h3
        omega
      rw [hB] at bN ⊢
      have rN := bN.get
      have hFN : ∀ j, W6.frozen? ⟨B, j, none⟩ = false := fun j => new_free W1 (.map #[] 0) hU6 j _ hBge
      have bN2 := Blk.sets s'.list 0 bN (by simp)
      have hch := Chg.setCells (S := (· = B)) (a := W6) (b := B) (Or.inl rfl) s'.list 0 (Chg.refl _ W6)
      have hU7 : Up W1 (W6.setCells B 0 s'.list) := ((Chg.of_up hU6).trans hch (fun _ _ h => h)).to_up fun k hk e => by omega
      have H7 := Lib.hid (And.intro hU7 (And.intro bN2 (hov6.chg hch fun k hk e => hne k hk e)))
      have HN := Lib.hid hnb
      simp only [getOps, List.getElem?_cons_zero, List.getElem?_cons_succ]
      clear hch hU7 bN2 hov6 bN hov hne hnb
      go_wp2
      go_meet
      case rel => exact ⟨B, rfl, rfl, Lib.hid H7.out.1, Lib.hid H7.out.2.1, hBge, Lib.hid H7.out.2.2, Lib.hid HN.out⟩
  case rest =>
    obtain ⟨B, rfl, rfl, hUc, bBc, hBge, hovc, hnbc⟩ := hcut
    have hL2 := HL.out.up (hU1.trans hUc.out)
    have kM := (HB.out.1.up hUc.out).lift
    have kL := hL2.b.lift
    rw [logList, HG.out.2.2.1] at kL
    clear hL2
    go_upto_region 2 with (fail)
    obtain ⟨sent, hsent, hsl, hsu⟩ : ∃ sent, sentN (envOf E m) s o o.length = sent ∧ sent.length = o.length ∧ ∀ (i : Nat) (x : Msg), sent[i]? = some x → x.u = i := ⟨_, rfl, sentN_length _ _ _ _, fun i x hx => by
      have hi : i < o.length := by have := (List.getElem?_eq_some_iff.1 hx).1; rwa [sentN_length] at this
      unfold sentN at hx
      rw [List.getElem?_map, List.getElem?_range hi] at hx
      simp at hx
      rw [← hx]; rfl⟩
    have ho8 : o.length ≤ 8 := by have := vmRun_o8 HG.out.1 HG.out.2.1 HG.out.2.2.2; rwa [HV.out.2.1] at this
    have HSN := Lib.hid (And.intro hsent (And.intro hsl (And.intro hsu ho8)))
    clear hsent hsl hsu ho8
    go_cut [13] from 32 to 45 (fun v13 wx => ∃ (D : Nat) (sv : Value), v13 = .pointer (some ⟨D, 0, none⟩) ∧ Hid (Up W1 wx) ∧ Hid (Blk wx B s'.list) ∧ Hid (Blk wx D (Ent.list ⟨m, f, sv, sent, none⟩)) ∧ W1.heap.size ≤ D ∧ Hid (OwnR wx 43 7 sv sent.length (msgCells sent)) ∧ Hid (∀ k, sameBlock sv k → W1.heap.size ≤ k ∧ k ≠ D ∧ k ≠ B) ∧ D ≠ B)
    case first =>
      refine region_plan0 (.head [0, 1, 2, 3, 4, 5, 6, 7, 8, 9, 10, 11] (.two 12 (.head [13] (.one 14 .done)) 14 (.one 12 (.head [13] .done)))) 15 [] (by kernel_rfl) (by kernel_rfl) ?_
      refine plan_head ?_
      simp only [getOps, List.getElem?_cons_zero, List.getElem?_cons_succ]
      repeat (apply wpUp_step rfl rfl; (focus (intro W hU; go_simp; exact ⟨rfl, Up.refl _⟩)); go_simp)
      refine wpUp_nil fun W2 hW2 => ?_
      clear kM kL
      have hU2 : Up wc W2 := up_drew.trans hW2
      have hBlt : B < wc.heap.size := bBc.out.lt (by simp)
      have call : ∀ W, Up W2 W → Calls Tryz.prog 46 #[.agg #[.slice V.pv E.np V.cv, .int .i64 E.me, .slice V.pl E.nl V.cl, .int .u64 E.seed], s.val, m.val, u11, .int .i64 0] W fun e w' => ∃ sv, e = .returned sv ∧ Up W w' ∧ OwnR w' 43 7 sv sent.length (msgCells sent) ∧ (∀ k, sameBlock sv k → W.heap.size ≤ k) := fun W hW => by
        have hLr := (HL.out.up ((hU1.trans hUc.out).trans (hU2.trans hW))).r
        refine (sends_any (.slice V.pv E.np V.cv) V.pl V.cl (envOf E m) s HG.out.2.2.2 u11 o (by rw [← HV.out.2.1]; exact vmRun_outs (envOf E m) s) HSN.out.2.2.2 HG.out.2.1.t.1 W hLr.lnk (hovc.out.up (hU2.trans hW))).mono ?_
        rintro e w' ⟨hU, v, rfl, hov, hb⟩
        refine ⟨v, rfl, hU, ?_, hb⟩
        rw [HSN.out.1] at hov
        rw [HSN.out.2.1]
        exact hov
      have HC := Lib.hid call
      clear call
      refine plan_two rfl rfl rfl rfl (fun W hW K hK => ?_) (fun W hW K hK => ?_)
      · go_simp
        refine (HC.out W hW).mono ?_
        rintro e W3 ⟨sv, rfl, hU3, hov, hnb⟩
        refine ⟨_, rfl, hU3, hK _ _ ?_⟩
        clear hK K
        obtain ⟨ps, cs, rfl⟩ := hov.form
        refine plan_head ?_
        simp only [getOps, List.getElem?_cons_zero, List.getElem?_cons_succ]
        (apply wpUp_pure rfl; (focus (intro W; go_simp; rfl)); go_simp)
        refine wpUp_nil fun W4 hW4 => ?_
        refine plan_one rfl rfl fun W5 hW5 K hK => ?_
        go_simp
        refine ⟨alloc_up _ _ _, hK _ _ ?_⟩
        clear hK K
        refine plan_done fun W6 hW6 => ?_
        have bN := (Blk.alloc W5 [.int .i64 0, .int .i64 0, .int .i64 0, .int .i64 0, .int .i64 0, .int .i64 0, .bool false, .int .i64 0, .slice none 0 0, .pointer none] 76).up hW6
        have hUc5 : Up wc W5 := (((hU2.trans hW).trans hU3).trans hW4).trans hW5
        have hUc6 : Up wc W6 := (hUc5.trans (alloc_up _ _ _)).trans hW6
        have hU6 : Up W1 W6 := hUc.out.trans hUc6
        have hov6 := hov.up (((hW4.trans hW5).trans (alloc_up _ _ _)).trans hW6)
        obtain ⟨D, hD⟩ : ∃ D, W5.heap.size = D := ⟨_, rfl⟩
        have hDge : W1.heap.size ≤ D := by rw [← hD]; exact (hUc.out.trans hUc5).1.size
        have hDB : D ≠ B := by have := hUc5.1.size; omega
        have hne : ∀ k, sameBlock (.slice ps sent.length cs) k → W1.heap.size ≤ k ∧ k ≠ D ∧ k ≠ B := fun k hk => by
          have h1 := hov.block_lt k hk
          have h2 := (hW4.trans hW5).1.size
          have h3 := hnb k hk
          have h4 := (hU2.trans hW).1.size
          have h5 := hUc.out.1.size
          exact ⟨by omega, by omega, by omega⟩
        rw [hD] at bN ⊢
        have rN := bN.get
        have hFN : ∀ j, W6.frozen? ⟨D, j, none⟩ = false := fun j => new_free W1 (.map #[] 0) hU6 j _ hDge
        have bN2 := Blk.sets (Ent.list ⟨m, f, .slice ps sent.length cs, sent, none⟩) 0 bN (by simp)
        have hch := Chg.setCells (S := (· = D)) (a := W6) (b := D) (Or.inl rfl) (Ent.list ⟨m, f, .slice ps sent.length cs, sent, none⟩) 0 (Chg.refl _ W6)
        have hU7 : Up W1 (W6.setCells D 0 (Ent.list ⟨m, f, .slice ps sent.length cs, sent, none⟩)) := ((Chg.of_up hU6).trans hch (fun _ _ h => h)).to_up fun k hk e => by omega
        have bB6 := (bBc.out.up hUc6).chg hch (fun e => hDB e.symm)
        have H7 := Lib.hid (And.intro hU7 (And.intro bN2 (And.intro (hov6.chg hch fun k hk e => (hne k hk).2.1 e) bB6)))
        have HN := Lib.hid hne
        simp only [getOps, List.getElem?_cons_zero, List.getElem?_cons_succ]
        clear hch hU7 bN2 hov6 bN hov hne bB6
        go_wp2
        go_meet
        case rel => exact ⟨D, _, rfl, Lib.hid H7.out.1, Lib.hid H7.out.2.2.2, Lib.hid H7.out.2.1, hDge, Lib.hid H7.out.2.2.1, Lib.hid HN.out, hDB⟩
      · go_simp
        refine ⟨alloc_up _ _ _, hK _ _ ?_⟩
        clear hK K
        refine plan_one rfl rfl fun W3 hW3 K hK => ?_
        go_simp
        refine (HC.out W3 ((hW.trans (alloc_up _ _ _)).trans hW3)).mono ?_
        rintro e W4 ⟨sv, rfl, hU4, hov, hnb⟩
        refine ⟨_, rfl, hU4, hK _ _ ?_⟩
        clear hK K
        obtain ⟨ps, cs, rfl⟩ := hov.form
        refine plan_head ?_
        simp only [getOps, List.getElem?_cons_zero, List.getElem?_cons_succ]
        (apply wpUp_pure rfl; (focus (intro W; go_simp; rfl)); go_simp)
        refine wpUp_nil fun W5 hW5 => ?_
        refine plan_done fun W6 hW6 => ?_
        have bN := (Blk.alloc W [.int .i64 0, .int .i64 0, .int .i64 0, .int .i64 0, .int .i64 0, .int .i64 0, .bool false, .int .i64 0, .slice none 0 0, .pointer none] 76).up (((hW3.trans hU4).trans hW5).trans hW6)
        have hUcW : Up wc W := hU2.trans hW
        have hUc6 : Up wc W6 := (((hUcW.trans (alloc_up _ _ _)).trans hW3).trans hU4).trans (hW5.trans hW6)
        have hU6 : Up W1 W6 := hUc.out.trans hUc6
        have hov6 := hov.up (hW5.trans hW6)
        obtain ⟨D, hD⟩ : ∃ D, W.heap.size = D := ⟨_, rfl⟩
        have hDge : W1.heap.size ≤ D := by rw [← hD]; exact (hUc.out.trans hUcW).1.size
        have hDB : D ≠ B := by have := hUcW.1.size; omega
        have hne : ∀ k, sameBlock (.slice ps sent.length cs) k → W1.heap.size ≤ k ∧ k ≠ D ∧ k ≠ B := fun k hk => by
          have h3 := hnb k hk
          have h4 := hW3.1.size
          rw [World.size_alloc] at h4
          have h5 := hUc.out.1.size
          have h6 := hUcW.1.size
          exact ⟨by omega, by omega, by omega⟩
        rw [hD] at bN ⊢
        have rN := bN.get
        have hFN : ∀ j, W6.frozen? ⟨D, j, none⟩ = false := fun j => new_free W1 (.map #[] 0) hU6 j _ hDge
        have bN2 := Blk.sets (Ent.list ⟨m, f, .slice ps sent.length cs, sent, none⟩) 0 bN (by simp)
        have hch := Chg.setCells (S := (· = D)) (a := W6) (b := D) (Or.inl rfl) (Ent.list ⟨m, f, .slice ps sent.length cs, sent, none⟩) 0 (Chg.refl _ W6)
        have hU7 : Up W1 (W6.setCells D 0 (Ent.list ⟨m, f, .slice ps sent.length cs, sent, none⟩)) := ((Chg.of_up hU6).trans hch (fun _ _ h => h)).to_up fun k hk e => by omega
        have bB6 := (bBc.out.up hUc6).chg hch (fun e => hDB e.symm)
        have H7 := Lib.hid (And.intro hU7 (And.intro bN2 (And.intro (hov6.chg hch fun k hk e => (hne k hk).2.1 e) bB6)))
        have HN := Lib.hid hne
        simp only [getOps, List.getElem?_cons_zero, List.getElem?_cons_succ]
        clear hch hU7 bN2 hov6 bN hov hne bB6
        go_wp2
        go_meet
        case rel => exact ⟨D, _, rfl, Lib.hid H7.out.1, Lib.hid H7.out.2.2.2, Lib.hid H7.out.2.1, hDge, Lib.hid H7.out.2.2.1, Lib.hid HN.out, hDB⟩
    case rest =>
      obtain ⟨D, sv, rfl, hUx, bBx, bDx, hDge, hovx, hnex, hDB⟩ := hcut
      obtain ⟨i0m, hi0, hz0, hz1, hz2⟩ := info_parts infoMsg
      have hap := append_nils 39 39 43 i0m Tryz.underlying39 hi0
      have bKx := HB.out.2.1.up hUx.out
      have rK := bKx.get
      have hFK : wc.frozen? ⟨w.heap.size + 1, 0, none⟩ = false := new_free w (.map #[] 0) (hU1.trans hUx.out) 0 _ (by omega)
      have hchK : Chg (· = w.heap.size + 1) wc (wc.setCell ⟨w.heap.size + 1, 0, none⟩ (.slice none 0 0)) := Chg.setCell (S := (· = w.heap.size + 1)) (p := ⟨w.heap.size + 1, 0, none⟩) (Chg.refl _ _) (Or.inl rfl) _
      have hKlt : w.heap.size + 1 < W1.heap.size := by omega
      have hg5 : Chg (· = w.heap.size + 1) W1 (wc.setCell ⟨w.heap.size + 1, 0, none⟩ (.slice none 0 0)) := (Chg.of_up hUx.out).trans hchK (fun _ _ h => h)
      have bK5 := bKx.set 0 (.slice none 0 0) (by simp)
      have bB5 := bBx.out.chg hchK (fun e => by omega)
      have bD5 := bDx.out.chg hchK (fun e => by omega)
      have hov5 := hovx.out.chg hchK (fun k hk e => by have := (hnex.out k hk).1; omega)
      have hen := enters_of Tryz.func47 (by kernel_rfl) rfl
      obtain ⟨ps, cs, hsv⟩ := hov5.form
      subst hsv
      have H5 := Lib.hid (And.intro hg5 (And.intro bK5 (And.intro bB5 (And.intro bD5 hov5))))
      have rD5 := bD5.get
      have HX := Lib.hid hnex.out
      clear hg5 bK5 bB5 bD5 hov5 hchK bKx hi0 hz0 hz1 hz2 hUx bBx bDx hovx hnex
      go_upto_region 5 with (fail)
      generalize (wc.setCell ⟨w.heap.size + 1, 0, none⟩ (.slice none 0 0)) = W5 at *
      clear rK hFK hap
      have hl8 : sent.length ≤ 8 := by rw [HSN.out.2.1]; exact HSN.out.2.2.2
      go_wp2_with fail
      go_loopw [52, 2, 15, 16, 17] (fun v x _ _ _ wr => ∃ k : Nat, k ≤ sent.length ∧ v = .int .i64 k ∧ x = .int .i64 k ∧ Hid (Chg (· = w.heap.size + 1) W1 wr) ∧ Hid (Blk wr (w.heap.size + 1) [.slice none 0 0]) ∧ Hid (Blk wr B s'.list) ∧ Hid (Blk wr D (Ent.list ⟨m, f, .slice ps sent.length cs, sent, none⟩)) ∧ Hid (OwnR wr 43 7 (.slice ps sent.length cs) sent.length (msgCells sent))) (fun v _ _ _ _ _ => sent.length - (intOf v).toNat)
      case atStart => exact ⟨0, Nat.zero_le _, rfl, rfl, Lib.hid H5.out.1, Lib.hid H5.out.2.1, Lib.hid H5.out.2.2.1, Lib.hid H5.out.2.2.2.1, Lib.hid H5.out.2.2.2.2⟩
      case round =>
        obtain ⟨k, hk, rfl, rfl, hup, bK, bB, bD, hov⟩ := hrel
        clear rD5
        by_cases hlt : k < sent.length
        · obtain ⟨x, hx⟩ : ∃ x, sent[k]? = some x := ⟨sent[k], by simp [hlt]⟩
          obtain ⟨g, cap, hpo⟩ := hov.out.pos (by omega)
          injection hpo with hpo _ hcap
          subst hpo
          subst hcap
          have hcell : ∀ r, r < 7 → wr.cell? ⟨g, k * 7 + r, none⟩ = some (x.list.getD r undef) := fun r hr => by
            refine hov.out.cell (g := g) rfl (k * 7 + r) _ ?_
            rw [msgCells, flat_get _ 7 (fun _ => rfl) _ _ _ hr, hx]
            simp only [Option.bind_some]
            rw [List.getD_eq_getElem?_getD, List.getElem?_eq_getElem (by simpa using hr)]; rfl
          have bX : BlkAt wr g (k * 7) x.list := ⟨fun r hr => hcell r (by simpa using hr)⟩
          have hxu := HSN.out.2.2.1 k x hx
          have rX := bX.get
          have rX0 := bX.zero
          have rD := bD.out.get
          have hd1 : decide ((k : Int) < (sent.length : Int)) = true := decide_eq_true (by omega)
          have w_k : IntKind.i64.wrap ((k : Int) + 1) = ((k + 1 : Nat) : Int) := by rw [IntWalk.i64_in _ (by omega)]; rfl
          have HXX := Lib.hid (And.intro hx hxu)
          clear hx hxu hcell bX
          go_wp2_with fail
          refine (had_none x (w.heap.size + 1) _ (bK.out.at (i := 0) rfl)).mono ?_
          rintro e W6 ⟨hU6, rfl⟩
          clear rX rX0 rD
          have rD := (bD.out.up hU6).get
          have hov6 := hov.out.up hU6
          have hc5 : (msgCells sent)[k * 7 + 5]? = some (.int .i64 (k : Int)) := by
            rw [msgCells, flat_get _ 7 (fun _ => rfl) _ _ _ (by omega), HXX.out.1]
            simp [HXX.out.2]
          have hgn := HX.out g rfl
          have hs6 := hov6.set_same (g := g) rfl hc5
          have hch : Chg (· = g) W6 (W6.setCell ⟨g, k * 7 + 5, none⟩ (.int .i64 (k : Int))) := Chg.setCell (S := (· = g)) (p := ⟨g, k * 7 + 5, none⟩) (Chg.refl _ _) (Or.inl rfl) _
          have hU7 : Chg (· = w.heap.size + 1) W1 (W6.setCell ⟨g, k * 7 + 5, none⟩ (.int .i64 (k : Int))) := (hup.out.up hU6).setCell (p := ⟨g, k * 7 + 5, none⟩) (Or.inr hgn.1) _
          have H7 := Lib.hid (And.intro hU7 (And.intro ((bK.out.up hU6).chg hch (fun e => by omega)) (And.intro ((bB.out.up hU6).chg hch (fun e => hgn.2.2 e.symm)) (And.intro ((bD.out.up hU6).chg hch (fun e => hgn.2.1 e.symm)) hs6))))
          have rC := hov6.cell (g := g) rfl _ _ hc5
          have rF := hov6.frozen (g := g) rfl (k * 7 + 5)
          clear hov6 hc5 hs6 hch hU7
          go_wp2
          exact ⟨⟨k + 1, by omega, by go_num, by go_num, Lib.hid H7.out.1, Lib.hid H7.out.2.1, Lib.hid H7.out.2.2.1, Lib.hid H7.out.2.2.2.1, Lib.hid H7.out.2.2.2.2⟩, by simp [intOf]; omega⟩
        · have hd1 : decide ((k : Int) < (sent.length : Int)) = false := decide_eq_false (by omega)
          go_upto_region 14 with (fail)
          have bR := HB.out.2.2.1.chg hup.out (fun e => by omega)
          have bT := HB.out.2.2.2.chg hup.out (fun e => by omega)
          obtain ⟨R, hR⟩ : ∃ R, w.heap.size + 1 + 1 = R := ⟨_, rfl⟩
          obtain ⟨T, hT⟩ : ∃ T, R + 1 = T := ⟨_, rfl⟩
          have hDR : D ≠ R := by omega
          have hDT : D ≠ T := by omega
          have hBR : B ≠ R := by omega
          have hBT : B ≠ T := by omega
          have hRT : R ≠ T := by omega
          have hFR : ∀ j, wr.frozen? ⟨R, j, none⟩ = false := fun j => (hup.out.marks _).trans (new_free w (.map #[] 0) hU1 j _ (by omega))
          have hFT : ∀ j, wr.frozen? ⟨T, j, none⟩ = false := fun j => (hup.out.marks _).trans (new_free w (.map #[] 0) hU1 j _ (by omega))
          rw [hR, hT] at bT
          rw [hR] at bR
          have HRT := Lib.hid (And.intro bR (And.intro bT (And.intro hFR (And.intro hFT (And.intro hR hT)))))
          simp only [hR, hT]
          clear hT hR bR bT hFR hFT
          have kB := fun W (hW : Chg (fun q => q = R ∨ q = T) wr.drew W) => ((bB.out.up up_drew).chg hW (by simp only [not_or]; exact ⟨hBR, hBT⟩)).get
          have kD := bD.out.lift
          refine region_two (fun q => q = R ∨ q = T) [1] [0, 1] [] 2 [3] (by kernel_rfl) (by kernel_rfl) ?_
          simp only [getOps, List.getElem?_cons_zero, List.getElem?_cons_succ]
          (apply wpUp2_step rfl rfl; (focus (intro W hU; go_simp; exact ⟨rfl, Up.refl _⟩)); go_simp)
          (apply wpUp2_read rfl; (focus (intro W hU; go_simp; rfl)); go_simp)
          refine wpUp2_nil fun W6 hW6 => ?_
          refine wpNew_nil fun W7 hW7 => ?_
          intro W8 hW8
          clear kB kD
          have hU8 : Up wr W8 := ((up_drew.trans hW6).trans hW7).trans hW8
          have bR8 := HRT.out.1.up hU8
          have bT8 := HRT.out.2.1.up hU8
          have hFR8 : ∀ j, W8.frozen? ⟨R, j, none⟩ = false := fun j => (hU8.2 _).trans (HRT.out.2.2.1 j)
          have hFT8 : ∀ j, W8.frozen? ⟨T, j, none⟩ = false := fun j => (hU8.2 _).trans (HRT.out.2.2.2.1 j)
          have hone : ∀ u ∈ Ent.list ⟨m, f, .slice ps sent.length cs, sent, none⟩, u.oneCell' = true := by simp [Value.oneCell']
          have hone2 : ∀ u ∈ s'.list, u.oneCell' = true := by simp [Value.oneCell']
          have c1 := Chg.setCells (S := (· = R)) (a := W8) (b := R) (Or.inl rfl) (Ent.list ⟨m, f, .slice ps sent.length cs, sent, none⟩) 0 (Chg.refl _ W8)
          have bR9 := Blk.sets (Ent.list ⟨m, f, .slice ps sent.length cs, sent, none⟩) 0 bR8 (by simp)
          refine wpTailS_store rfl 76 _ _ rfl R 0 (Ent.list ⟨m, f, .slice ps sent.length cs, sent, none⟩) rfl rfl (bR8.there hFR8 (by simp)) (by kernel_rfl) hone (Or.inl rfl) ?_
          have bT9 := bT8.chg c1 (fun e => hRT e.symm)
          have hFT9 : ∀ j, (W8.setCells R 0 (Ent.list ⟨m, f, .slice ps sent.length cs, sent, none⟩)).frozen? ⟨T, j, none⟩ = false := fun j => (c1.marks _).trans (hFT8 j)
          have hov9 := (hov.out.up hU8).chg c1 (fun k hk e => by have := HX.out k hk; have := HRT.out.2.2.2.2.1; omega)
          have hch9 : Chg (fun q => q = w.heap.size + 1 ∨ q = R) W1 (W8.setCells R 0 (Ent.list ⟨m, f, .slice ps sent.length cs, sent, none⟩)) := ((hup.out.up hU8).mono (T := fun q => q = w.heap.size + 1 ∨ q = R) (fun _ _ e => Or.inl e)).trans c1 (fun _ _ e => Or.inr e)
          have H9 := Lib.hid (And.intro bR9 (And.intro hov9 hch9))
          clear bR9 hov9 hch9 c1 bR8 hFR8
          simp only [setL, List.set_cons_succ, List.set_cons_zero] at H9
          generalize (W8.setCells R 0 (Ent.list ⟨m, f, .slice ps sent.length cs, sent, none⟩)) = W9 at *
          have c2 := Chg.setCells (S := (· = T)) (a := W9) (b := T) (Or.inl rfl) s'.list 0 (Chg.refl _ W9)
          have bT10 := Blk.sets s'.list 0 bT9 (by simp)
          go_simp
          refine wpTailS_store rfl 34 _ _ rfl T 0 s'.list rfl rfl (bT9.there hFT9 (by simp)) (by kernel_rfl) hone2 (Or.inr rfl) ?_
          refine wpTailS_nil ?_
          have hU10 : Up w (W9.setCells T 0 s'.list) := ((Chg.of_up hU1).trans ((H9.out.2.2.mono (T := fun q => w.heap.size ≤ q) (fun q _ e => by have := HRT.out.2.2.2.2.1; rcases e with e | e <;> omega)).trans (c2.mono (T := fun q => w.heap.size ≤ q) (fun q _ e => by have := HRT.out.2.2.2.2; omega)) (fun _ _ e => e)) (fun _ _ e => e)).to_up (fun q hq e => by omega)
          have bR10 := H9.out.1.chg c2 (fun e => hRT e)
          have hov10 := H9.out.2.1.chg c2 (fun k hk e => by have := HX.out k hk; have := HRT.out.2.2.2.2; omega)
          have H10 := Lib.hid (And.intro hU10 (And.intro bR10 (And.intro bT10 hov10)))
          clear hU10 bR10 bT10 hov10 c2 bT9 hFT9 bT8 hFT8
          generalize (W9.setCells T 0 s'.list) = W10 at *
          go_simp
          go_wp2
          exact bodyPost_ret (w := W10) (results_blk2 rfl rfl H10.out.2.1 Tryz.underlying76 rfl (by kernel_rfl) rfl H10.out.2.2.1 Tryz.underlying34 rfl (by kernel_rfl)) rfl
            ⟨H10.out.1, _, sent, HSN.out.2.1, rfl, H10.out.2.2.2, fun k hk => by have := (HX.out k hk).1; omega⟩
end Go.Proofs.YtalmjdlcogdpmaaGreatDoor
