/- make([]byte, m), whatever m is; rows of whole numbers that are known whole: words of this seat's walks. No statement is proved here. -/
import Derived.Test.YtkgjmajabgpadaaC1
import Derived.Test.YtkgjmajabgpadaaD0
import Derived.Laws.MakeOwn
import Derived.LoopN
namespace Go.Proofs.Ytkgjmajabgpadaa
set_option linter.unusedVariables false
set_option linter.unusedSimpArgs false
open Go.RowKit Go.Proofs.YtkgjmajabgpadaaW.PrintWords Go.Proofs.YtkgjmajabgpadaaW.PrintLast Go.Proofs.YtkgjmajabgpadaaW.PrintMore
theorem mk_run (m : Nat) (hm : m ≤ 100000) : ∀ W : World, (Instr.makeSlice 22 (.int .i64 (m : Int)) (.int .i64 (m : Int))).run Try.prog W = .ok (.slice (some ⟨W.heap.size, 0, none⟩) m m) (W.alloc (.cells (madeCells #[.int .u8 0] m) 5)) :=
  print_make 22 5 .u8 1 Try.underlying22 info5 (by decide) m (by omega)
theorem mk_bv (W : World) (m : Nat) (hm : m ≤ 100000) : BV (W.alloc (.cells (madeCells #[.int .u8 0] m) 5)) (.slice (some ⟨W.heap.size, 0, none⟩) m m) (List.replicate m 0) := by
  refine BC.bv (BC.of_reads (by simp; omega) fun hp => ⟨_, rfl, fun j hj => ?_⟩) (by simp) (by simp)
  have hj : j < m := by simpa using hj
  rw [Go.WideShapes.add_plain]
  unfold World.cell? World.alloc
  simp [madeCells, List.getD_eq_getElem?_getD, hj, Nat.mod_one]
theorem zeros_bytes (m : Nat) : bytesP (List.replicate m 0) := by
  intro c hc
  have := List.eq_of_mem_replicate hc
  omega
/-- Numbers in a block that is known whole. -/
def Rw (w : World) (g : Nat) (xs : List Int) : Prop := w.heap[g]? = some (.cells (xs.map (Value.int .i64)).toArray 3 (0, 0))
section
variable {w w1 : World} {g : Nat} {xs : List Int}
theorem Rw.lt (h : Rw w g xs) : g < w.heap.size := blk_lt h
theorem Rw.mv (h : Rw w g xs) (hb : Below w.heap.size w w1) : Rw w1 g xs := (hb.block g (blk_lt h)).trans h
theorem Rw.alloc (h : Rw w g xs) (o : Obj) : Rw (w.alloc o) g xs := h.mv (below_alloc (Below.refl _ _) o)
theorem Rw.drew (h : Rw w g xs) : Rw w.drew g xs := h
theorem Rw.drewN (h : Rw w g xs) (n : Nat) : Rw (w.drewN n) g xs := h
theorem Rw.at_ (h : Rw w g xs) (i : Nat) (hi : i < xs.length) : w.cell? ⟨g, i, none⟩ = some (.int .i64 (xs.getD i 0)) := by
  refine (blk_cell h i).trans ?_
  simp [List.getD_eq_getElem?_getD, hi]
theorem Rw.new (w : World) (xs : List Int) : Rw (w.alloc (.cells (xs.map (Value.int .i64)).toArray 3)) w.heap.size xs := blk_new w _
end
end Go.Proofs.Ytkgjmajabgpadaa
