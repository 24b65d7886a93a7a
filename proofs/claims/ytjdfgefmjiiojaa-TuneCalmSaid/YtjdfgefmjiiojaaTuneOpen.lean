/- A setting, and statistics, that came in as arguments, opened to their integers. -/
import Derived.Test.YtjdfgefmjiiojaaRows
import Derived.Test.YtjdfgefmjiiojaaUp
import Derived.ProofKit
import Derived.Lib.SmallJoins
namespace Go.Proofs.Ytjdfgefmjiiojaa
open Go.Joins Go.ChangeShapes Go.WideShapes Go.ChangeAt Go.RowKit

def I64 (x : Int) : Prop := -9223372036854775808 ≤ x ∧ x ≤ 9223372036854775807
theorem i64_of {x : Int} (h : (Lit.int .i64 x).wf = true) : I64 x := by
  simpa [I64, Lit.wf, IntKind.min, IntKind.max, IntKind.signed, IntKind.bits] using h
section
variable {H : Type} {enc : TypeId × Value → H} {w : World} {base : Nat} {spare : Nat → Bool} {held : Bool}
theorem field_int {n t : Nat} {v : Value} {y : DataW H × List MemPlace} (ht : Try.prog.underlying t = some (.int .i64)) (h : DataW.trod enc Try.prog w base spare held n t [v] = some y) : ∃ x, v = .int .i64 x ∧ I64 x := by
  obtain ⟨a, e0, _, wa⟩ := DataW.trod_int ht h
  simp at e0
  exact ⟨a, e0, i64_of wa⟩
theorem open_setting {r : Reach} {b0 : Nat} {v : Value} {d : DataW H} {p : List MemPlace} (hv : Value.okWide Try.prog w r b0 35 v) (h : DataW.Trod enc Try.prog w base spare held 35 v d p) :
    ∃ m e c r q : Int, v = .agg #[.int .i64 m, .int .i64 e, .int .i64 c, .int .i64 r, .int .i64 q] ∧ I64 m ∧ I64 e ∧ I64 c ∧ I64 r ∧ I64 q := by
  have hs := Try.underlying35
  obtain ⟨cs, rfl, hsz⟩ := okWide_struct hs hv
  obtain ⟨l⟩ := cs
  match l, hsz.trans (show Try.prog.cellsOf 35 = 5 by kernel_rfl) with
  | [c0, c1, c2, c3, c4], _ =>
    obtain ⟨fuel, hf⟩ := h
    obtain ⟨xs, n, _, hx, _, hlen, hg⟩ := DataW.trod_struct hs hf
    match xs, hlen with
    | [y0, y1, y2, y3, y4], _ =>
      have k : ∀ t, t = 2 ∨ t = 3 → Try.prog.cellsOf t = 1 := by intro t ht; rcases ht with rfl | rfl <;> kernel_rfl
      obtain ⟨m, rfl, hm⟩ := field_int Try.underlying3 (by simpa [Value.cells, k] using hg 0 _ rfl)
      obtain ⟨e, rfl, he⟩ := field_int Try.underlying3 (by simpa [Value.cells, k] using hg 1 _ rfl)
      obtain ⟨c, rfl, hc⟩ := field_int Try.underlying3 (by simpa [Value.cells, k] using hg 2 _ rfl)
      obtain ⟨r, rfl, hr⟩ := field_int Try.underlying2 (by simpa [Value.cells, k] using hg 3 _ rfl)
      obtain ⟨q, rfl, hq⟩ := field_int Try.underlying3 (by simpa [Value.cells, k] using hg 4 _ rfl)
      exact ⟨m, e, c, r, q, rfl, hm, he, hc, hr, hq⟩
theorem open_stats {r : Reach} {b0 : Nat} {v : Value} {d : DataW H} {p : List MemPlace} (hv : Value.okWide Try.prog w r b0 44 v) (h : DataW.Trod enc Try.prog w base spare held 44 v d p) :
    ∃ m e c r : Int, v = .agg #[.int .i64 m, .int .i64 e, .int .i64 c, .int .i64 r] ∧ I64 m ∧ I64 e ∧ I64 c ∧ I64 r := by
  have hs := Try.underlying44
  obtain ⟨cs, rfl, hsz⟩ := okWide_struct hs hv
  obtain ⟨l⟩ := cs
  match l, hsz.trans (show Try.prog.cellsOf 44 = 4 by kernel_rfl) with
  | [c0, c1, c2, c3], _ =>
    obtain ⟨fuel, hf⟩ := h
    obtain ⟨xs, n, _, hx, _, hlen, hg⟩ := DataW.trod_struct hs hf
    match xs, hlen with
    | [y0, y1, y2, y3], _ =>
      have k : ∀ t, t = 2 ∨ t = 3 → Try.prog.cellsOf t = 1 := by intro t ht; rcases ht with rfl | rfl <;> kernel_rfl
      obtain ⟨m, rfl, hm⟩ := field_int Try.underlying3 (by simpa [Value.cells, k] using hg 0 _ rfl)
      obtain ⟨e, rfl, he⟩ := field_int Try.underlying3 (by simpa [Value.cells, k] using hg 1 _ rfl)
      obtain ⟨c, rfl, hc⟩ := field_int Try.underlying3 (by simpa [Value.cells, k] using hg 2 _ rfl)
      obtain ⟨r, rfl, hr⟩ := field_int Try.underlying3 (by simpa [Value.cells, k] using hg 3 _ rfl)
      exact ⟨m, e, c, r, rfl, hm, he, hc, hr⟩
end
end Go.Proofs.Ytjdfgefmjiiojaa
