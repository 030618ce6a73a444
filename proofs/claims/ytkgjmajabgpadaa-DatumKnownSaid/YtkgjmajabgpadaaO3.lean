/- '!=' of two data, of two probes that are the same. -/
import Derived.Test.YtkgjmajabgpadaaO2
namespace Go.Proofs.Ytkgjmajabgpadaa
set_option linter.unusedVariables false
set_option linter.unusedSimpArgs false
open Go.Proofs.YtkgjmajabgpadaaW.PrintWords
theorem neq_datum_same (w : World) (x y z : Int) (a b c : Int) : (binOp .neq 64 (.agg #[.int .i64 x, .int .i64 y, .int .i64 z, .int .u8 a, .int .u8 b, .int .u8 c]) (.agg #[.int .i64 x, .int .i64 y, .int .i64 z, .int .u8 a, .int .u8 b, .int .u8 c])).run Try.prog w = .ok (.bool false) w := by
  have h : ∀ d, (Op.equalIn (d + 3) 64 (.agg #[.int .i64 x, .int .i64 y, .int .i64 z, .int .u8 a, .int .u8 b, .int .u8 c]) (.agg #[.int .i64 x, .int .i64 y, .int .i64 z, .int .u8 a, .int .u8 b, .int .u8 c])).run Try.prog w = .ok (x == x && (y == y && (z == z && (a == a && (b == b && c == c))))) w := fun d =>
    eqA_of Try.underlying64 (by kernel_rfl) (eqf_cons rfl (by kernel_rfl) (by kernel_rfl) (eq_int w (d + 1) 3 _ _ _ Try.underlying3) (eqf_cons rfl (by kernel_rfl) (by kernel_rfl) (eq_int w (d + 1) 3 _ _ _ Try.underlying3) (eqf_cons rfl (by kernel_rfl) (by kernel_rfl) (eq_int w (d + 1) 3 _ _ _ Try.underlying3) (eqf_last rfl (by kernel_rfl) (by kernel_rfl) (eq_hdr w d _ _ _ _ _ _)))))
  simp only [binOp]
  simp [Op.equal, Op.maxDepth, h]
theorem neq_probe_same (w : World) (x0 x1 x2 x3 x4 : Int) : (binOp .neq 42 (.agg #[.int .i64 x0, .int .i64 x1, .int .i64 x2, .int .i64 x3, .int .i64 x4]) (.agg #[.int .i64 x0, .int .i64 x1, .int .i64 x2, .int .i64 x3, .int .i64 x4])).run Try.prog w = .ok (.bool false) w := by
  have h : ∀ d, (Op.equalIn (d + 2) 42 (.agg #[.int .i64 x0, .int .i64 x1, .int .i64 x2, .int .i64 x3, .int .i64 x4]) (.agg #[.int .i64 x0, .int .i64 x1, .int .i64 x2, .int .i64 x3, .int .i64 x4])).run Try.prog w = .ok (x0 == x0 && (x1 == x1 && (x2 == x2 && (x3 == x3 && x4 == x4)))) w := fun d =>
    eqA_of Try.underlying42 (by kernel_rfl) (eqf_cons rfl (by kernel_rfl) (by kernel_rfl) (eq_int w d 3 _ _ _ Try.underlying3) (eqf_cons rfl (by kernel_rfl) (by kernel_rfl) (eq_int w d 3 _ _ _ Try.underlying3) (eqf_cons rfl (by kernel_rfl) (by kernel_rfl) (eq_int w d 3 _ _ _ Try.underlying3) (eqf_cons rfl (by kernel_rfl) (by kernel_rfl) (eq_int w d 3 _ _ _ Try.underlying3) (eqf_last rfl (by kernel_rfl) (by kernel_rfl) (eq_int w d 3 _ _ _ Try.underlying3))))))
  simp only [binOp]
  simp [Op.equal, Op.maxDepth, h]
end Go.Proofs.Ytkgjmajabgpadaa
