/- '==' of two data, of two probes. -/
import Derived.Test.YtkgjmajabgpadaaO1
import Derived.Test.YtkgjmajabgpadaaWEqStruct
import Derived.ChangeKeysEq
namespace Go.Proofs.Ytkgjmajabgpadaa
set_option linter.unusedVariables false
set_option linter.unusedSimpArgs false
open Go.Proofs.YtkgjmajabgpadaaW.PrintWords
theorem eq_int (w : World) (d : Nat) (t : TypeId) (k : IntKind) (a b : Int) (ht : Try.prog.underlying t = some (.int k)) : (Op.equalIn (d + 1) t (.int k a) (.int k b)).run Try.prog w = .ok (a == b) w := by
  simp [Op.equalIn, run_underlying ht]
theorem eq_hdr (w : World) (d : Nat) (x y z p q t : Int) : (Op.equalIn (d + 2) 62 (.agg #[.int .u8 x, .int .u8 y, .int .u8 z]) (.agg #[.int .u8 p, .int .u8 q, .int .u8 t])).run Try.prog w = .ok (x == p && (y == q && z == t)) w := by
  obtain ⟨i0, hi, _⟩ := Option.map_eq_some_iff.1 info5
  have e5 : Try.prog.cellsOf 5 = 1 := by kernel_rfl
  have p0 : ∀ a b c : Value, (part 5 #[a, b, c] 0).run Try.prog w = .ok a w := fun _ _ _ => by kernel_rfl
  have p1 : ∀ a b c : Value, (part 5 #[a, b, c] 1).run Try.prog w = .ok b w := fun _ _ _ => by kernel_rfl
  have p2 : ∀ a b c : Value, (part 5 #[a, b, c] 2).run Try.prog w = .ok c w := fun _ _ _ => by kernel_rfl
  rw [run_equalIn_array w (d + 1) _ _ Try.underlying62 hi, e5]
  have er : List.range 3 = [0, 1, 2] := rfl
  rw [er]
  have q0 := eq_int w d 5 .u8 x p Try.underlying5
  have q1 := eq_int w d 5 .u8 y q Try.underlying5
  have q2 := eq_int w d 5 .u8 z t Try.underlying5
  cases hx : (x == p) <;> cases hy : (y == q) <;> cases hz : (z == t) <;> rw [hx] at q0 <;> rw [hy] at q1 <;> rw [hz] at q2 <;> simp [Op.eqItems, p0, p1, p2, q0, q1, q2]
theorem eq_datum (w : World) (x y z : Int) (a b c : Int) (x' y' z' : Int) (a' b' c' : Int) : (binOp .eql 64 (.agg #[.int .i64 x, .int .i64 y, .int .i64 z, .int .u8 a, .int .u8 b, .int .u8 c]) (.agg #[.int .i64 x', .int .i64 y', .int .i64 z', .int .u8 a', .int .u8 b', .int .u8 c'])).run Try.prog w = .ok (.bool (x == x' && (y == y' && (z == z' && (a == a' && (b == b' && c == c')))))) w := by
  have h : ∀ d, (Op.equalIn (d + 3) 64 (.agg #[.int .i64 x, .int .i64 y, .int .i64 z, .int .u8 a, .int .u8 b, .int .u8 c]) (.agg #[.int .i64 x', .int .i64 y', .int .i64 z', .int .u8 a', .int .u8 b', .int .u8 c'])).run Try.prog w = .ok (x == x' && (y == y' && (z == z' && (a == a' && (b == b' && c == c'))))) w := fun d =>
    eqA_of Try.underlying64 (by kernel_rfl) (eqf_cons rfl (by kernel_rfl) (by kernel_rfl) (eq_int w (d + 1) 3 _ _ _ Try.underlying3) (eqf_cons rfl (by kernel_rfl) (by kernel_rfl) (eq_int w (d + 1) 3 _ _ _ Try.underlying3) (eqf_cons rfl (by kernel_rfl) (by kernel_rfl) (eq_int w (d + 1) 3 _ _ _ Try.underlying3) (eqf_last rfl (by kernel_rfl) (by kernel_rfl) (eq_hdr w d _ _ _ _ _ _)))))
  simp only [binOp]
  simp [Op.equal, Op.maxDepth, h]
theorem eq_datum_same (w : World) (x y z : Int) (a b c : Int) : (binOp .eql 64 (.agg #[.int .i64 x, .int .i64 y, .int .i64 z, .int .u8 a, .int .u8 b, .int .u8 c]) (.agg #[.int .i64 x, .int .i64 y, .int .i64 z, .int .u8 a, .int .u8 b, .int .u8 c])).run Try.prog w = .ok (.bool true) w := by
  rw [eq_datum]
  simp
theorem eq_probe (w : World) (x0 x1 x2 x3 x4 y0 y1 y2 y3 y4 : Int) : (binOp .eql 42 (.agg #[.int .i64 x0, .int .i64 x1, .int .i64 x2, .int .i64 x3, .int .i64 x4]) (.agg #[.int .i64 y0, .int .i64 y1, .int .i64 y2, .int .i64 y3, .int .i64 y4])).run Try.prog w = .ok (.bool (x0 == y0 && (x1 == y1 && (x2 == y2 && (x3 == y3 && x4 == y4))))) w := by
  have h : ∀ d, (Op.equalIn (d + 2) 42 (.agg #[.int .i64 x0, .int .i64 x1, .int .i64 x2, .int .i64 x3, .int .i64 x4]) (.agg #[.int .i64 y0, .int .i64 y1, .int .i64 y2, .int .i64 y3, .int .i64 y4])).run Try.prog w = .ok (x0 == y0 && (x1 == y1 && (x2 == y2 && (x3 == y3 && x4 == y4)))) w := fun d =>
    eqA_of Try.underlying42 (by kernel_rfl) (eqf_cons rfl (by kernel_rfl) (by kernel_rfl) (eq_int w d 3 _ _ _ Try.underlying3) (eqf_cons rfl (by kernel_rfl) (by kernel_rfl) (eq_int w d 3 _ _ _ Try.underlying3) (eqf_cons rfl (by kernel_rfl) (by kernel_rfl) (eq_int w d 3 _ _ _ Try.underlying3) (eqf_cons rfl (by kernel_rfl) (by kernel_rfl) (eq_int w d 3 _ _ _ Try.underlying3) (eqf_last rfl (by kernel_rfl) (by kernel_rfl) (eq_int w d 3 _ _ _ Try.underlying3))))))
  simp only [binOp]
  simp [Op.equal, Op.maxDepth, h]
theorem eq_probe_same (w : World) (x0 x1 x2 x3 x4 : Int) : (binOp .eql 42 (.agg #[.int .i64 x0, .int .i64 x1, .int .i64 x2, .int .i64 x3, .int .i64 x4]) (.agg #[.int .i64 x0, .int .i64 x1, .int .i64 x2, .int .i64 x3, .int .i64 x4])).run Try.prog w = .ok (.bool true) w := by
  rw [eq_probe]
  simp
end Go.Proofs.Ytkgjmajabgpadaa
