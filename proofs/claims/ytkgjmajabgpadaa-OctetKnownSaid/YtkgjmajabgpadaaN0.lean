/- make([]byte, m), whatever m is; rows of whole numbers that are known whole: words of this seat's walks. No statement is proved here. -/
import Derived.Test.YtkgjmajabgpadaaC1
import Derived.Test.YtkgjmajabgpadaaD0
import Derived.Test.YtkgjmajabgpadaaD1
import Derived.Laws.MakeOwn
import Derived.LoopN
namespace Go.Proofs.Ytkgjmajabgpadaa
set_option linter.unusedVariables false
set_option linter.unusedSimpArgs false
open Go.RowKit Go.Proofs.YtkgjmajabgpadaaW.PrintWords Go.Proofs.YtkgjmajabgpadaaW.PrintLast Go.Proofs.YtkgjmajabgpadaaW.PrintMore
theorem mk_run (m : Nat) (hm : m ≤ 100000) : ∀ W : World, (Instr.makeSlice 22 (.int .i64 (m : Int)) (.int .i64 (m : Int))).run Try.prog W = .ok (.slice (some ⟨W.heap.size, 0, none⟩) m m) (W.alloc (.cells (madeCells #[.int .u8 0] m) 5)) :=
  print_make 22 5 .u8 1 Try.underlying22 info5 (by decide) m (by omega)
theorem mk_bv (W : World) (m : Nat) (hm : m ≤ 100000) : BV (W.alloc (.cells (madeCells #[.int .u8 0] m) 5)) (.slice (some ⟨W.heap.size, 0, none⟩) m m) (List.replicate m 0) := by
  refine BC.bv (BC.of_reads (by simp; omega) fun hp => ⟨_, rfl, fun j hj => ?_⟩) (by simp) (by simp)
  have hj : j < m := by simpa using hj
  rw [Go.WideShapes.add_plain]
  unfold World.cell? World.alloc
  simp [madeCells, List.getD_eq_getElem?_getD, hj, Nat.mod_one]
theorem zeros_bytes (m : Nat) : bytesP (List.replicate m 0) := by
  intro c hc
  have := List.eq_of_mem_replicate hc
  omega
/-- Numbers in a block that is known whole. -/
def Rw (w : World) (g : Nat) (xs : List Int) : Prop := w.heap[g]? = some (.cells (xs.map (Value.int .i64)).toArray 3 (0, 0))
section
variable {w w1 : World} {g : Nat} {xs : List Int}
theorem Rw.lt (h : Rw w g xs) : g < w.heap.size := blk_lt h
theorem Rw.mv (h : Rw w g xs) (hb : Below w.heap.size w w1) : Rw w1 g xs := (hb.block g (blk_lt h)).trans h
theorem Rw.alloc (h : Rw w g xs) (o : Obj) : Rw (w.alloc o) g xs := h.mv (below_alloc (Below.refl _ _) o)
theorem Rw.drew (h : Rw w g xs) : Rw w.drew g xs := h
theorem Rw.drewN (h : Rw w g xs) (n : Nat) : Rw (w.drewN n) g xs := h
theorem Rw.at_ (h : Rw w g xs) (i : Nat) (hi : i < xs.length) : w.cell? ⟨g, i, none⟩ = some (.int .i64 (xs.getD i 0)) := by
  refine (blk_cell h i).trans ?_
  simp [List.getD_eq_getElem?_getD, hi]
theorem Rw.new (w : World) (xs : List Int) : Rw (w.alloc (.cells (xs.map (Value.int .i64)).toArray 3)) w.heap.size xs := blk_new w _
end
theorem lit_ivN (w : World) (l : List Int) (hl : l.length ≤ 9223372036854775807) : IV (w.alloc (.cells (l.map (Value.int .i64)).toArray 3)) (.slice (some ⟨w.heap.size, 0, none⟩) l.length l.length) l := by
  refine IC.iv (Kd.C_of_reads (enc := Value.int .i64) (d := (0 : Int)) ⟨rfl, hl, fun hp => ⟨_, rfl, fun j hj => ?_⟩⟩) (Nat.le_refl _) rfl
  rw [Go.WideShapes.add_plain]
  unfold World.cell? World.alloc
  simp [List.getD_eq_getElem?_getD, hj]
section
variable {ops : Array Oper} {Q : Exit → Act → World → Prop}
/-- A literal in a region that draws its order: its block and its world by names. -/
theorem lit8_ {oi : Oper} {N : Option Tmp} {a : Act} {W : World} {K : Act → World → Prop} (hw : Region.wanted oi (yielded ops a.tmps) = true) (hN : oi.dst = N) (xs : List Int) (hm : xs.length ≤ 9223372036854775807)
    (hrun : (execOp a.eval oi).run Try.prog W = .ok (.value (.slice (some ⟨W.heap.size, 0, none⟩) xs.length xs.length)) (W.alloc (.cells (xs.map (Value.int .u8)).toArray 5)))
    (h : ∀ g w1, W.heap.size = g → BV w1 (.slice (some ⟨g, 0, none⟩) xs.length xs.length) xs → Below W.heap.size W w1 → K (a.put N (.slice (some ⟨g, 0, none⟩) xs.length xs.length)) w1) :
    if Region.wanted oi (yielded ops a.tmps) = true then Oper.wp Try.prog oi a W K Q else K (a.put N undef) W :=
  value_ hw hN hrun (h _ _ rfl (marked_bv W xs (0, 0) hm) (below_alloc (Below.refl _ _) _))
theorem lit64_ {oi : Oper} {N : Option Tmp} {a : Act} {W : World} {K : Act → World → Prop} (hw : Region.wanted oi (yielded ops a.tmps) = true) (hN : oi.dst = N) (xs : List Int) (hm : xs.length ≤ 9223372036854775807)
    (hrun : (execOp a.eval oi).run Try.prog W = .ok (.value (.slice (some ⟨W.heap.size, 0, none⟩) xs.length xs.length)) (W.alloc (.cells (xs.map (Value.int .i64)).toArray 3)))
    (h : ∀ g w1, W.heap.size = g → IV w1 (.slice (some ⟨g, 0, none⟩) xs.length xs.length) xs → Below W.heap.size W w1 → K (a.put N (.slice (some ⟨g, 0, none⟩) xs.length xs.length)) w1) :
    if Region.wanted oi (yielded ops a.tmps) = true then Oper.wp Try.prog oi a W K Q else K (a.put N undef) W :=
  value_ hw hN hrun (h _ _ rfl (lit_ivN W xs hm) (below_alloc (Below.refl _ _) _))
end
end Go.Proofs.Ytkgjmajabgpadaa
