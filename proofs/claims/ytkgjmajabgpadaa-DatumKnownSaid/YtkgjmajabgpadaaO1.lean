/- Arguments that came in as arrays and structs: their values, written out. -/
import Derived.Test.YtkgjmajabgpadaaD0
import Derived.OpenShut
import Derived.Lib.SmallJoins
namespace Go.Proofs.Ytkgjmajabgpadaa
set_option linter.unusedVariables false
set_option linter.unusedSimpArgs false
open Go.ChangeShapes Go.WideShapes Go.RowKit
section
variable {H : Type} {enc : TypeId × Value → H} {w : World} {r : Reach} {base b0 : Nat} {spare : Nat → Bool} {held : Bool} {v : Value} {d : DataW H} {p : List MemPlace}
theorem okWide_array {n : Nat} {t e : TypeId} (ht : Try.prog.underlying t = some (.array n e)) (h : Value.okWide Try.prog w r b0 t v) : ∃ cs, v = .agg cs ∧ cs.size = Try.prog.cellsOf t := by
  simp only [Value.okWide, ht] at h
  obtain ⟨cs, h1, h2, _⟩ := h
  exact ⟨cs, h1, h2⟩
theorem one_int {l : List Value} {k : IntKind} {fuel : Nat} {t : TypeId} {x : Option (DataW H × List MemPlace)} (ht : Try.prog.underlying t = some (.int k)) (h : DataW.trod enc Try.prog w base spare held fuel t l = x) (hx : x.isSome = true) : ∃ n, l = [.int k n] ∧ (Lit.int k n).wf = true := by
  obtain ⟨y, rfl⟩ := Option.isSome_iff_exists.mp hx
  obtain ⟨n, h1, _, h2⟩ := DataW.trod_int ht h
  exact ⟨n, h1, h2⟩
theorem open_pair (hval : Value.okWide Try.prog w r b0 37 v) (h : DataW.Trod enc Try.prog w base spare held 37 v d p) : ∃ x y, v = .agg #[.int .i64 x, .int .i64 y] ∧ (Lit.int .i64 x).wf = true ∧ (Lit.int .i64 y).wf = true := by
  obtain ⟨cs, rfl, hsz⟩ := okWide_array Try.underlying37 hval
  obtain ⟨c0, c1, rfl⟩ := Go.Joins.array2 (hsz.trans (by kernel_rfl))
  obtain ⟨fuel, hf⟩ := h
  obtain ⟨xs, m, _, _, _, hlen, hi⟩ := DataW.trod_array Try.underlying37 hf
  have e3 : Try.prog.cellsOf 3 = 1 := by kernel_rfl
  obtain ⟨x, hx, wx⟩ := one_int Try.underlying3 (hi 0 (by omega)) (by simp [hlen])
  obtain ⟨y, hy, wy⟩ := one_int Try.underlying3 (hi 1 (by omega)) (by simp [hlen])
  simp [e3, Value.cells] at hx hy
  subst hx
  subst hy
  exact ⟨x, y, rfl, wx, wy⟩
theorem array5 {α : Type} {cs : Array α} (h : cs.size = 5) : ∃ c0 c1 c2 c3 c4, cs = #[c0, c1, c2, c3, c4] := by
  obtain ⟨l⟩ := cs
  match l, h with
  | [c0, c1, c2, c3, c4], _ => exact ⟨c0, c1, c2, c3, c4, rfl⟩
theorem array6 {α : Type} {cs : Array α} (h : cs.size = 6) : ∃ c0 c1 c2 c3 c4 c5, cs = #[c0, c1, c2, c3, c4, c5] := by
  obtain ⟨l⟩ := cs
  match l, h with
  | [c0, c1, c2, c3, c4, c5], _ => exact ⟨c0, c1, c2, c3, c4, c5, rfl⟩
theorem open_probe (hval : Value.okWide Try.prog w r b0 42 v) (h : DataW.Trod enc Try.prog w base spare held 42 v d p) : ∃ x0 x1 x2 x3 x4, v = .agg #[.int .i64 x0, .int .i64 x1, .int .i64 x2, .int .i64 x3, .int .i64 x4] ∧ (Lit.int .i64 x0).wf = true ∧ (Lit.int .i64 x1).wf = true ∧ (Lit.int .i64 x2).wf = true ∧ (Lit.int .i64 x3).wf = true ∧ (Lit.int .i64 x4).wf = true := by
  obtain ⟨cs, rfl, hsz⟩ := okWide_struct Try.underlying42 hval
  obtain ⟨c0, c1, c2, c3, c4, rfl⟩ := array5 (hsz.trans (by kernel_rfl))
  obtain ⟨fuel, hf⟩ := h
  obtain ⟨xs, m, _, _, _, hlen, hi⟩ := DataW.trod_struct Try.underlying42 hf
  have e3 : Try.prog.cellsOf 3 = 1 := by kernel_rfl
  have hlen : xs.length = 5 := hlen
  obtain ⟨x0, h0, w0⟩ := one_int Try.underlying3 (hi 0 _ rfl) (by simp [hlen])
  obtain ⟨x1, h1, w1⟩ := one_int Try.underlying3 (hi 1 _ rfl) (by simp [hlen])
  obtain ⟨x2, h2, w2⟩ := one_int Try.underlying3 (hi 2 _ rfl) (by simp [hlen])
  obtain ⟨x3, h3, w3⟩ := one_int Try.underlying3 (hi 3 _ rfl) (by simp [hlen])
  obtain ⟨x4, h4, w4⟩ := one_int Try.underlying3 (hi 4 _ rfl) (by simp [hlen])
  simp [e3, Value.cells] at h0 h1 h2 h3 h4
  subst h0 h1 h2 h3 h4
  exact ⟨x0, x1, x2, x3, x4, rfl, w0, w1, w2, w3, w4⟩
theorem open_datum (hval : Value.okWide Try.prog w r b0 64 v) (h : DataW.Trod enc Try.prog w base spare held 64 v d p) : ∃ x0 x1 x2 y0 y1 y2, v = .agg #[.int .i64 x0, .int .i64 x1, .int .i64 x2, .int .u8 y0, .int .u8 y1, .int .u8 y2] ∧ (Lit.int .i64 x0).wf = true ∧ (Lit.int .i64 x1).wf = true ∧ (Lit.int .i64 x2).wf = true ∧ (Lit.int .u8 y0).wf = true ∧ (Lit.int .u8 y1).wf = true ∧ (Lit.int .u8 y2).wf = true := by
  obtain ⟨cs, rfl, hsz⟩ := okWide_struct Try.underlying64 hval
  obtain ⟨c0, c1, c2, c3, c4, c5, rfl⟩ := array6 (hsz.trans (by kernel_rfl))
  obtain ⟨fuel, hf⟩ := h
  obtain ⟨xs, m, _, _, _, hlen, hi⟩ := DataW.trod_struct Try.underlying64 hf
  have e3 : Try.prog.cellsOf 3 = 1 := by kernel_rfl
  have e5 : Try.prog.cellsOf 5 = 1 := by kernel_rfl
  have e62 : Try.prog.cellsOf 62 = 3 := by kernel_rfl
  have hlen : xs.length = 4 := hlen
  obtain ⟨x0, h0, w0⟩ := one_int Try.underlying3 (hi 0 _ rfl) (by simp [hlen])
  obtain ⟨x1, h1, w1⟩ := one_int Try.underlying3 (hi 1 _ rfl) (by simp [hlen])
  obtain ⟨x2, h2, w2⟩ := one_int Try.underlying3 (hi 2 _ rfl) (by simp [hlen])
  have h3 := hi 3 _ rfl
  obtain ⟨z, hz⟩ : ∃ z, xs[3]? = some z := ⟨xs[3], by simp [hlen]⟩
  rw [hz] at h3
  obtain ⟨ys, m', _, _, _, hlen', hj⟩ := DataW.trod_array Try.underlying62 h3
  obtain ⟨y0, k0, u0⟩ := one_int Try.underlying5 (hj 0 (by omega)) (by simp [hlen'])
  obtain ⟨y1, k1, u1⟩ := one_int Try.underlying5 (hj 1 (by omega)) (by simp [hlen'])
  obtain ⟨y2, k2, u2⟩ := one_int Try.underlying5 (hj 2 (by omega)) (by simp [hlen'])
  simp [e3, Value.cells] at h0 h1 h2
  simp [e5, e62, Value.cells] at k0 k1 k2
  subst h0 h1 h2 k0 k1 k2
  exact ⟨x0, x1, x2, y0, y1, y2, rfl, w0, w1, w2, u0, u1, u2⟩
end
end Go.Proofs.Ytkgjmajabgpadaa
