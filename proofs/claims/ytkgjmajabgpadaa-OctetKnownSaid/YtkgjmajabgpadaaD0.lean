/- Rows that came in, rows that are written: words of this seat's walks. No statement is proved here. -/
import Derived.Test.YtkgjmajabgpadaaC2
import Derived.WalkKit
namespace Go.Proofs.Ytkgjmajabgpadaa
open Go.RowKit Go.Proofs.YtkgjmajabgpadaaW.PrintWords Go.Proofs.YtkgjmajabgpadaaW.PrintLast Go.Proofs.YtkgjmajabgpadaaW.PrintMore
/-- A slice of whole numbers that came in, as the row's reading gives it. -/
def IsRow (k : IntKind) (w : World) (a : Option Addr) (len cap : Nat) (zs : List Int) : Prop :=
  (a = none ∧ len = 0 ∧ cap = 0 ∧ zs = []) ∨
  ∃ x, a = some x ∧ len ≤ cap ∧ cap ≤ maxLen ∧ zs.length = cap ∧ (∀ i, i < zs.length → w.cell? (x.add i) = some (.int k (zs.getD i 0))) ∧ ∀ n ∈ zs, (Lit.int k n).wf = true
theorem isRow_reads {k : IntKind} {w : World} {a : Option Addr} {len cap : Nat} {zs : List Int} (h : IsRow k w a len cap zs) : Kd.C (Kd.int k) w a (zs.take len).length (zs.take len) ∧ len ≤ cap ∧ (zs.take len).length = len ∧ ∀ n ∈ zs.take len, (Lit.int k n).wf = true := by
  rcases h with ⟨rfl, rfl, rfl, rfl⟩ | ⟨x, rfl, h1, h2, h3, h4, h5⟩
  · exact ⟨Kd.C_nil _ _, Nat.le_refl _, rfl, by simp⟩
  · have hl : (zs.take len).length = len := by rw [List.length_take]; omega
    refine ⟨Kd.C_of_reads (enc := Value.int k) (d := (0 : Int)) ⟨rfl, by rw [hl]; simp only [maxLen] at h2; omega, fun _ => ⟨x, rfl, fun j hj => ?_⟩⟩, h1, hl, fun n hn => h5 n (List.mem_of_mem_take hn)⟩
    rw [hl] at hj
    rw [h4 j (by omega)]
    simp [List.getD_eq_getElem?_getD, hj]
theorem wf_byte {n : Int} (h : (Lit.int .u8 n).wf = true) : 0 ≤ n ∧ n < 256 := by
  have e1 : IntKind.min .u8 = 0 := by decide
  have e2 : IntKind.max .u8 = 255 := by decide
  simp only [Lit.wf, e1, e2, Bool.and_eq_true, decide_eq_true_eq] at h
  omega
theorem wf_u16 {n : Int} (h : (Lit.int .u16 n).wf = true) : 0 ≤ n ∧ n < 65536 := by
  have e1 : IntKind.min .u16 = 0 := by decide
  have e2 : IntKind.max .u16 = 65535 := by decide
  simp only [Lit.wf, e1, e2, Bool.and_eq_true, decide_eq_true_eq] at h
  omega
theorem wf_int {n : Int} (h : (Lit.int .i64 n).wf = true) : -9223372036854775808 ≤ n ∧ n ≤ 9223372036854775807 := by
  have e1 : IntKind.min .i64 = -9223372036854775808 := by decide
  have e2 : IntKind.max .i64 = 9223372036854775807 := by decide
  simp only [Lit.wf, e1, e2, Bool.and_eq_true, decide_eq_true_eq] at h
  omega
theorem BV.ofRow {w : World} {a : Option Addr} {len cap : Nat} {zs : List Int} (h : IsRow .u8 w a len cap zs) : BV w (.slice a len cap) (zs.take len) ∧ bytesP (zs.take len) ∧ (zs.take len).length = len := by
  obtain ⟨h1, h2, h3, h4⟩ := isRow_reads h
  exact ⟨BC.bv h1 (by omega) h3, fun c hc => wf_byte (h4 c hc), h3⟩
theorem IV.ofRow {w : World} {a : Option Addr} {len cap : Nat} {zs : List Int} (h : IsRow .i64 w a len cap zs) : IV w (.slice a len cap) (zs.take len) ∧ (∀ n ∈ zs.take len, (Lit.int .i64 n).wf = true) ∧ (zs.take len).length = len := by
  obtain ⟨h1, h2, h3, h4⟩ := isRow_reads h
  exact ⟨IC.iv h1 (by omega) h3, h4, h3⟩

section
variable {w w1 : World} {l : List Int} {base n cap g : Nat} {v : Value}
/-- Where a row of the call's own lies. -/
theorem BR.form (h : BR w base v l) : ∃ A cap g, v = .slice A l.length cap ∧ base ≤ g ∧ (0 < l.length → A = some ⟨g, 0, none⟩ ∧ g < w.heap.size) ∧ (∀ k, v.ownBlock = some k → base ≤ k ∧ k < w.heap.size) := by
  have hk : ∀ k, v.ownBlock = some k → base ≤ k ∧ k < w.heap.size := fun k hk => ⟨Kd.R_base h k hk, Kd.R_lt h k hk⟩
  rcases Nat.eq_zero_or_pos l.length with h0 | h0
  · obtain ⟨A, c, rfl, _, _⟩ := h.reads
    exact ⟨A, c, base, rfl, Nat.le_refl _, fun hp => by omega, hk⟩
  · obtain ⟨g, cap, rfl, h1, h2, _⟩ := Kd.R_form h h0
    exact ⟨_, cap, g, rfl, h1, fun _ => ⟨rfl, h2⟩, hk⟩
theorem BR.cell (h : BR w base (.slice (some ⟨g, 0, none⟩) n cap) l) (hn : l.length = n) (i : Nat) (hi : i < n) : w.cell? ⟨g, i, none⟩ = some (.int .u8 (l.getD i 0)) ∧ w.frozen? ⟨g, i, none⟩ = false := by
  subst hn
  have := Kd.R_cell (enc := Value.int .u8) (0 : Int) h (i : Int) (by omega) (by omega)
  exact this
theorem BR.put (h : BR w base (.slice (some ⟨g, 0, none⟩) n cap) l) (hn : l.length = n) (i : Nat) (x : Int) : BR (w.setCell ⟨g, i, none⟩ (.int .u8 x)) base (.slice (some ⟨g, 0, none⟩) n cap) (l.set i x) := by
  subst hn
  have := Kd.R_put (enc := Value.int .u8) h (i : Int) x
  exact this.1
/-- Another block was written. -/
theorem BR.kp (h : BR w base v l) (hk : Kp w w1 g) (hne : ∀ k, v.ownBlock = some k → k ≠ g) : BR w1 base v l := by
  refine Kd.R_mono (Kd.R_step (Kd.R_tight rfl h) (fun k hok hlt => hk.block k hlt (hne k hok.symm))) (fun _ _ => trivial)
theorem BR.far (h : BR w base v l) (i : Nat) (u : Value) (hne : ∀ k, v.ownBlock = some k → k ≠ g) : BR (w.setCell ⟨g, i, none⟩ u) base v l := h.kp ((Kp.refl w g).set_ i u) hne
theorem BR.block_lt (h : BR w base v l) : ∀ k, v.ownBlock = some k → k < w.heap.size := fun k hk => Kd.R_lt h k hk
theorem BR.block_ge (h : BR w base v l) : ∀ k, v.ownBlock = some k → base ≤ k := fun k hk => Kd.R_base h k hk
end
end Go.Proofs.Ytkgjmajabgpadaa
