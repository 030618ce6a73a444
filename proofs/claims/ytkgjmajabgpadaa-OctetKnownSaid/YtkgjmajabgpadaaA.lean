/- The words that all texts of this seat share: bytes that are read, bytes of the call's own. No statement is proved here. -/
import Derived.Test.YtkgjmajabgpadaaProg
import Derived.Below
import Derived.Deep.Draws
import Derived.Deep.AppendLies
import Derived.Maps.AppendAt
import Derived.OwnWalk
import Derived.Laws.BytesArg
import Derived.Laws.MakeOwn
import Derived.Laws.OwnMore
import Derived.Deep.OwnRows
import Derived.Tactics
import Derived.Lib.ConvBytes
import Derived.Laws.Slices
import Derived.WalkKit
import Derived.KernelRfl
import Derived.RowKit3
import Derived.Deep.LoopGhost
import Derived.Deep.QuietTactic
import Derived.BigQuiet
import Derived.WideLaws
import Derived.Deep.DeepCutAuto
import Derived.Deep.CutBlock
import Derived.Deep.RegionHeld3
import Derived.Laws.Rows
import Derived.Lib.AppendStr
import Derived.ArgAppend
import Derived.Laws.IdiomCopy
import Derived.OrdersHeld
import Derived.Laws.BitsLemmas
import Derived.RowKit
import Derived.WalkSpells
import Derived.Test.YtkgjmajabgpadaaWWords
import Derived.Test.YtkgjmajabgpadaaWLast
import Derived.Test.YtkgjmajabgpadaaWMore
namespace Go.Proofs.Ytkgjmajabgpadaa
open Go.RowKit Go.Proofs.YtkgjmajabgpadaaW.PrintWords Go.Proofs.YtkgjmajabgpadaaW.PrintLast Go.Proofs.YtkgjmajabgpadaaW.PrintMore

theorem info3 : (Try.prog.info? 3).map (fun i => (i.zero, i.size, i.bytes)) = some (some (.int .i64 0), 1, 8) := by kernel_rfl
theorem info5 : (Try.prog.info? 5).map (fun i => (i.zero, i.size, i.bytes)) = some (some (.int .u8 0), 1, 1) := by kernel_rfl

/-- Bytes that are read. -/
def BC (w : World) (A : Option Addr) (l : List Int) : Prop := Kd.C (Kd.int .u8) w A l.length l
/-- Bytes of the call's own, in a block from base on. -/
def BR (w : World) (base : Nat) (v : Value) (l : List Int) : Prop := Kd.R (Kd.int .u8) 5 w base (fun _ => True) v l
/-- Numbers that are read. -/
def IC (w : World) (A : Option Addr) (l : List Int) : Prop := Kd.C (Kd.int .i64) w A l.length l
/-- Numbers of the call's own. -/
def IR (w : World) (base : Nat) (v : Value) (l : List Int) : Prop := Kd.R (Kd.int .i64) 3 w base (fun _ => True) v l

section
variable {w w1 : World} {A : Option Addr} {l : List Int} {base base' : Nat} {v : Value}
theorem BC.mv (h : BC w A l) (hb : Below w.heap.size w w1) : BC w1 A l := Kd.C_below h hb
theorem IC.mv (h : IC w A l) (hb : Below w.heap.size w w1) : IC w1 A l := Kd.C_below h hb
theorem BR.mv (h : BR w base v l) (hb : Below w.heap.size w w1) : BR w1 base v l := Kd.R_below h hb
theorem IR.mv (h : IR w base v l) (hb : Below w.heap.size w w1) : IR w1 base v l := Kd.R_below h hb
theorem BC.alloc (h : BC w A l) (o : Obj) : BC (w.alloc o) A l := Kd.C_alloc h o
theorem BC.drew (h : BC w A l) : BC w.drew A l := Kd.C_drew h
theorem BC.drewN (h : BC w A l) (n : Nat) : BC (w.drewN n) A l := Kd.C_drewN h n
theorem IC.alloc (h : IC w A l) (o : Obj) : IC (w.alloc o) A l := Kd.C_alloc h o
theorem IC.drew (h : IC w A l) : IC w.drew A l := Kd.C_drew h
theorem IC.drewN (h : IC w A l) (n : Nat) : IC (w.drewN n) A l := Kd.C_drewN h n
theorem BR.alloc (h : BR w base v l) (o : Obj) : BR (w.alloc o) base v l := Kd.R_alloc h o
theorem BR.drew (h : BR w base v l) : BR w.drew base v l := Kd.R_drew h
theorem BR.drewN (h : BR w base v l) (n : Nat) : BR (w.drewN n) base v l := Kd.R_drewN h n
theorem IR.alloc (h : IR w base v l) (o : Obj) : IR (w.alloc o) base v l := Kd.R_alloc h o
theorem IR.drew (h : IR w base v l) : IR w.drew base v l := Kd.R_drew h
theorem IR.drewN (h : IR w base v l) (n : Nat) : IR (w.drewN n) base v l := Kd.R_drewN h n
theorem BR.lower (h : BR w base v l) (hb : base' ≤ base) : BR w base' v l := Kd.R_lower h hb
theorem IR.lower (h : IR w base v l) (hb : base' ≤ base) : IR w base' v l := Kd.R_lower h hb
theorem BR.nil (w : World) (base : Nat) : BR w base (.slice none 0 0) [] := Kd.R_nil _ _ _ _ _
theorem BC.nil (w : World) : BC w none [] := Kd.C_nil _ _
theorem BR.reads (h : BR w base v l) : ∃ A c, v = .slice A l.length c ∧ l.length ≤ c ∧ BC w A l := Kd.R_reads h
theorem IR.reads (h : IR w base v l) : ∃ A c, v = .slice A l.length c ∧ l.length ≤ c ∧ IC w A l := Kd.R_reads h
theorem BR.bc {c n : Nat} (h : BR w base (.slice A n c) l) : BC w A l := (Kd.R_reads' h).2.2
theorem IR.ic {c n : Nat} (h : IR w base (.slice A n c) l) : IC w A l := (Kd.R_reads' h).2.2
theorem BR.le {c n : Nat} (h : BR w base (.slice A n c) l) : l.length ≤ c := by have := Kd.R_reads' h; omega
theorem IR.le {c n : Nat} (h : IR w base (.slice A n c) l) : l.length ≤ c := by have := Kd.R_reads' h; omega
theorem BC.at_ (h : BC w A l) (i : Int) (h0 : 0 ≤ i) (h1 : i < l.length) : ∃ ad, A = some ad ∧ w.cell? (ad.add i.toNat) = some (.int .u8 (rd l i)) := Kd.at_int h i h0 h1
theorem IC.at_ (h : IC w A l) (i : Int) (h0 : 0 ≤ i) (h1 : i < l.length) : ∃ ad, A = some ad ∧ w.cell? (ad.add i.toNat) = some (.int .i64 (rd l i)) := Kd.at_int h i h0 h1
theorem BC.atN (h : BC w A l) (i : Nat) (h1 : i < l.length) : ∃ ad, A = some ad ∧ w.cell? (ad.add i) = some (.int .u8 (l.getD i 0)) := by
  obtain ⟨ad, e, hc⟩ := h.at_ (i : Int) (by omega) (by omega)
  exact ⟨ad, e, hc⟩
theorem IC.atN (h : IC w A l) (i : Nat) (h1 : i < l.length) : ∃ ad, A = some ad ∧ w.cell? (ad.add i) = some (.int .i64 (l.getD i 0)) := by
  obtain ⟨ad, e, hc⟩ := h.at_ (i : Int) (by omega) (by omega)
  exact ⟨ad, e, hc⟩
theorem BC.none_nil (h : BC w none l) : l = [] := by
  rcases Nat.eq_zero_or_pos l.length with h0 | h0
  · exact List.eq_nil_of_length_eq_zero h0
  · obtain ⟨ad, e, _⟩ := h.2.2 h0
    cases e
theorem BC.max (h : BC w A l) : l.length ≤ 9223372036854775807 := h.2.1
theorem IC.max (h : IC w A l) : l.length ≤ 9223372036854775807 := h.2.1
theorem BC.take (h : BC w A l) {m : Nat} (hm : m ≤ l.length) : BC w A (l.take m) := Kd.C_take h hm
theorem BC.drop (h : BC w A l) {m c : Nat} (hm : m ≤ l.length) (hc : l.length ≤ c) : BC w (if c = m then A else A.map (·.add m)) (l.drop m) := by
  have := Kd.C_drop (c := c) h hm hc
  unfold BC
  simpa [Kd.int, Kd.scalar] using this
theorem BC.mid (h : BC w A l) {lo hi c : Nat} (h1 : lo ≤ hi) (h2 : hi ≤ l.length) (hc : l.length ≤ c) : BC w (if c = lo then A else A.map (·.add lo)) ((l.take hi).drop lo) := by
  have := Kd.C_mid (c := c) h h1 h2 hc
  unfold BC
  simpa [Kd.int, Kd.scalar] using this
end

/-- A value that reads as these bytes. -/
def BV (w : World) (v : Value) (l : List Int) : Prop := ∃ A c, v = .slice A l.length c ∧ l.length ≤ c ∧ BC w A l
/-- A value that reads as these numbers. -/
def IV (w : World) (v : Value) (l : List Int) : Prop := ∃ A c, v = .slice A l.length c ∧ l.length ≤ c ∧ IC w A l
section
variable {w w1 : World} {A : Option Addr} {l : List Int} {base n c : Nat} {v : Value}
theorem BV.mv (h : BV w v l) (hb : Below w.heap.size w w1) : BV w1 v l := by
  obtain ⟨A, c, e, hc, h⟩ := h
  exact ⟨A, c, e, hc, h.mv hb⟩
theorem IV.mv (h : IV w v l) (hb : Below w.heap.size w w1) : IV w1 v l := by
  obtain ⟨A, c, e, hc, h⟩ := h
  exact ⟨A, c, e, hc, h.mv hb⟩
theorem BV.alloc (h : BV w v l) (o : Obj) : BV (w.alloc o) v l := h.mv (below_alloc (Below.refl _ _) o)
theorem BV.drew (h : BV w v l) : BV w.drew v l := h.mv (below_drew (Below.refl _ _))
theorem BV.drewN (h : BV w v l) (m : Nat) : BV (w.drewN m) v l := h.mv (pw_below_drewN (Below.refl _ _) m)
theorem IV.alloc (h : IV w v l) (o : Obj) : IV (w.alloc o) v l := h.mv (below_alloc (Below.refl _ _) o)
theorem IV.drew (h : IV w v l) : IV w.drew v l := h.mv (below_drew (Below.refl _ _))
theorem IV.drewN (h : IV w v l) (m : Nat) : IV (w.drewN m) v l := h.mv (pw_below_drewN (Below.refl _ _) m)
theorem BR.bv (h : BR w base v l) : BV w v l := Kd.R_reads h
theorem IR.iv (h : IR w base v l) : IV w v l := Kd.R_reads h
theorem BC.bv (h : BC w A l) (hc : l.length ≤ c) (hn : l.length = n) : BV w (.slice A n c) l := ⟨A, c, by rw [hn], hc, h⟩
theorem IC.iv (h : IC w A l) (hc : l.length ≤ c) (hn : l.length = n) : IV w (.slice A n c) l := ⟨A, c, by rw [hn], hc, h⟩
theorem BV.nil (w : World) : BV w (.slice none 0 0) [] := ⟨none, 0, rfl, Nat.le_refl _, BC.nil w⟩
theorem BV.slice (h : BV w (.slice A n c) l) : n = l.length ∧ l.length ≤ c ∧ BC w A l := by
  obtain ⟨A', c', e, hc, h⟩ := h
  injection e with h1 h2 h3
  subst h1 h2 h3
  exact ⟨rfl, hc, h⟩
end
theorem below_of_grown_none {W w1 : World} (hg : W.grownBy w1 none) : Below W.heap.size W w1 := ⟨hg.os, hg.tape, hg.output, hg.size, fun i hi => hg.block i hi (by simp)⟩
section
variable {ops : Array Oper} {rest : List Oper} {o : Oper} {a : Act} {Q : Exit → Act → World → Prop}
/-- append(v, ys...), v bytes of the call's own. -/
theorem app_arm {w0 W : World} (base : Nat) (hgd : o.guard = none) (s x : Operand)
    (ho : o.op = .call { callee := .builtin .append, args := #[s, x], argTypes := #[22, 22] })
    (v : Value) (xs ys : List Int) (A : Option Addr) (m c : Nat) (hs : a.eval s = v) (hx : a.eval x = .slice A m c)
    (HO : BR W base v xs) (HR : BC W A ys) (hm : ys.length = m)
    (HB : Below base w0 W) (hbase : base ≤ W.heap.size) (hl : xs.length + ys.length ≤ 140737488355328)
    (h : ∀ v1 w1, BR w1 base v1 (xs ++ ys) → Below base w0 w1 → W.grownBy w1 v.ownBlock → (v1.ownBlock = v.ownBlock ∨ ∃ b, v1.ownBlock = some b ∧ W.heap.size ≤ b) → wpList Try.prog ops Q rest (a.put o.dst v1) w1) :
    wpList Try.prog ops Q (o :: rest) a W := by
  subst hm
  exact Kd.R_append_rows (Kd.int .u8) (w0 := w0) base hgd s x 22 5 (.int .u8 0) 1 ho Try.underlying22 info5 rfl (by decide) (by omega) v xs ys A _ c (fun _ => True) (fun _ => False) hs hx HO HR (fun _ _ h => h) (fun _ h => h.elim) (fun _ _ => trivial) HB hbase (by omega) h
theorem event_run_w {W w1 : World} {v : Value} (hw : Region.wanted o (yielded ops a.tmps) = true) (hrun : (execOp a.eval o).run Try.prog W = .ok (.value v) w1) (h : wpList Try.prog ops Q rest (a.put o.dst v) w1) : wpList Try.prog ops Q (o :: rest) a W := by
  refine wpList_step fun K hK => ?_
  rw [if_pos hw]
  unfold Oper.wp
  rw [hrun]
  exact hK _ _ h
/-- []byte{..}. -/
theorem lit_u8 {w0 W : World} (base : Nat) (hgd : Region.wanted o (yielded ops a.tmps) = true) {N : Tmp} (_hd : o.dst = some N) (xs : List Int)
    (hrun : (execOp a.eval o).run Try.prog W = .ok (.value (.slice (some ⟨W.heap.size, 0, none⟩) xs.length xs.length)) (W.alloc (.cells (xs.map (Value.int .u8)).toArray 5)))
    (HB : Below base w0 W) (hbase : base ≤ W.heap.size) (hm : xs.length ≤ 9223372036854775807)
    (h : ∀ v1 w1, BR w1 base v1 xs → Below base w0 w1 → W.grownBy w1 none → (∃ b, v1.ownBlock = some b ∧ W.heap.size ≤ b) → wpList Try.prog ops Q rest (a.put o.dst v1) w1) : wpList Try.prog ops Q (o :: rest) a W := by
  refine event_run_w hgd hrun (h _ _ ?_ (HB.alloc hbase _) (World.grownBy_alloc W _ none) ⟨W.heap.size, by simp [Value.ownBlock], Nat.le_refl _⟩)
  exact Kd.R_of_own (own_lit_of (enc := Value.int .u8) W base 5 xs hbase hm) (fun _ _ => trivial)
/-- []int{..}. -/
theorem lit_i64 {w0 W : World} (base : Nat) (hgd : Region.wanted o (yielded ops a.tmps) = true) {N : Tmp} (_hd : o.dst = some N) (xs : List Int)
    (hrun : (execOp a.eval o).run Try.prog W = .ok (.value (.slice (some ⟨W.heap.size, 0, none⟩) xs.length xs.length)) (W.alloc (.cells (xs.map (Value.int .i64)).toArray 3)))
    (HB : Below base w0 W) (hbase : base ≤ W.heap.size) (hm : xs.length ≤ 9223372036854775807)
    (h : ∀ v1 w1, IR w1 base v1 xs → Below base w0 w1 → W.grownBy w1 none → (∃ b, v1.ownBlock = some b ∧ W.heap.size ≤ b) → wpList Try.prog ops Q rest (a.put o.dst v1) w1) : wpList Try.prog ops Q (o :: rest) a W := by
  refine event_run_w hgd hrun (h _ _ ?_ (HB.alloc hbase _) (World.grownBy_alloc W _ none) ⟨W.heap.size, by simp [Value.ownBlock], Nat.le_refl _⟩)
  exact Kd.R_of_own (own_lit_of (enc := Value.int .i64) W base 3 xs hbase hm) (fun _ _ => trivial)
end

end Go.Proofs.Ytkgjmajabgpadaa
