/- A reader in memory, what it holds, and cuts of bytes: words of this seat's walks. No statement is proved here. -/
import Derived.Test.YtkgjmajabgpadaaB6
namespace Go.Proofs.Ytkgjmajabgpadaa
open Go.RowKit Go.Proofs.YtkgjmajabgpadaaW.PrintWords Go.Proofs.YtkgjmajabgpadaaW.PrintLast Go.Proofs.YtkgjmajabgpadaaW.PrintMore

/-- Only block g may have changed; new blocks may have come. -/
structure Kp (w w' : World) (g : Nat) : Prop where
  os : w'.os = w.os
  tape : w'.tape = w.tape
  output : w'.output = w.output
  size : w.heap.size ≤ w'.heap.size
  block : ∀ i, i < w.heap.size → i ≠ g → w'.heap[i]? = w.heap[i]?
theorem Kp.refl (w : World) (g : Nat) : Kp w w g := ⟨rfl, rfl, rfl, Nat.le_refl _, fun _ _ _ => rfl⟩
theorem Kp.trans {w w1 w2 : World} {g : Nat} (h : Kp w w1 g) (k : Kp w1 w2 g) : Kp w w2 g :=
  ⟨k.os.trans h.os, k.tape.trans h.tape, k.output.trans h.output, Nat.le_trans h.size k.size, fun i hi hg => (k.block i (Nat.lt_of_lt_of_le hi h.size) hg).trans (h.block i hi hg)⟩
theorem Kp.of_below {w w1 : World} (h : Below w.heap.size w w1) (g : Nat) : Kp w w1 g := ⟨h.os, h.tape, h.output, h.size, fun i hi _ => h.block i hi⟩
theorem Kp.below {w w1 : World} {g B : Nat} (h : Kp w w1 g) (hg : B ≤ g) (hB : B ≤ w.heap.size) : Below B w w1 :=
  ⟨h.os, h.tape, h.output, h.size, fun i hi => h.block i (Nat.lt_of_lt_of_le hi hB) (by omega)⟩
theorem Kp.drew {w : World} {g : Nat} : Kp w w.drew g := ⟨rfl, rfl, rfl, Nat.le_refl _, fun _ _ _ => rfl⟩
theorem Kp.drewN {w w1 : World} {g : Nat} (h : Kp w w1 g) (n : Nat) : Kp w (w1.drewN n) g := h.trans (Kp.of_below (pw_below_drewN (Below.refl _ _) n) g)
theorem Kp.set_ {w w1 : World} {g : Nat} (h : Kp w w1 g) (j : Nat) (u : Value) : Kp w (w1.setCell ⟨g, j, none⟩ u) g :=
  h.trans ⟨rfl, rfl, rfl, by simp [World.setCell], fun i _ hg => Below.heap_setCell _ _ _ _ hg⟩
theorem below_kp {w W w1 : World} {B g : Nat} (h : Below B w W) (k : Kp W w1 g) (hg : B ≤ g) (hB : B ≤ W.heap.size) : Below B w w1 := h.trans (k.below hg hB)

/-- A block of a reader: its bytes and its error. -/
def Rb (w : World) (T g : Nat) (l : List Int) (e : Int) : Prop :=
  ∃ A c, w.heap[g]? = some (.cells #[.slice A l.length c, .int .i64 e] T (0, 0)) ∧ l.length ≤ c ∧ BC w A l
theorem BC.of_reads {w : World} {A : Option Addr} {l : List Int} (hm : l.length ≤ 9223372036854775807) (h : 0 < l.length → ∃ ad, A = some ad ∧ ∀ j, j < l.length → w.cell? (ad.add j) = some (.int .u8 (l.getD j 0))) : BC w A l := Kd.C_of_reads (enc := Value.int .u8) (d := (0 : Int)) ⟨rfl, hm, h⟩
theorem two_cells {x y v : Value} {i : Nat} (h : (#[x, y] : Array Value)[i]? = some v) : v = x ∨ v = y := by
  rcases i with _ | _ | k
  · left; simpa using h.symm
  · right; simpa using h.symm
  · simp at h
theorem BC.kp {w w1 : World} {A A' : Option Addr} {l : List Int} {g n c T : Nat} {e : Int} (h : BC w A l) (hg : w.heap[g]? = some (.cells #[.slice A' n c, .int .i64 e] T (0, 0))) (hk : Kp w w1 g) : BC w1 A l := by
  refine BC.of_reads h.max fun hp => ?_
  obtain ⟨ad, e1, _⟩ := h.atN 0 hp
  refine ⟨ad, e1, fun j hj => ?_⟩
  obtain ⟨ad', e2, hc⟩ := h.atN j hj
  rw [e1] at e2
  injection e2 with e2
  subst e2
  have hlt := World.block_lt_of_cell? w _ hc
  have hne : (ad.add j).block ≠ g := by
    intro hb
    have h2 := hc
    unfold World.cell? at h2
    rw [hb, hg] at h2
    dsimp only at h2
    split at h2
    · cases h2
    · rcases two_cells h2 with h3 | h3
      · cases h3
      · injection h3 with h3 _
        cases h3
  exact (World.cell?_of_block (w := w) (hk.block _ hlt hne)).trans hc
theorem Rb.lt {w : World} {T g : Nat} {l : List Int} {e : Int} (h : Rb w T g l e) : g < w.heap.size := by
  obtain ⟨A, c, hg, _⟩ := h
  exact blk_lt hg
theorem BV.kp {w w1 : World} {v : Value} {l l' : List Int} {g T : Nat} {e : Int} (h : BV w v l) (hr : Rb w T g l' e) (hk : Kp w w1 g) : BV w1 v l := by
  obtain ⟨A, c, e0, hc, hb⟩ := h
  obtain ⟨A', c', hg, _, _⟩ := hr
  exact ⟨A, c, e0, hc, hb.kp hg hk⟩
/-- Another reader has turned. -/
theorem Rb.kp {w w1 : World} {T T' g g' : Nat} {l l' : List Int} {e e' : Int} (h : Rb w T g l e) (hr : Rb w T' g' l' e') (hk : Kp w w1 g') (hne : g ≠ g') : Rb w1 T g l e := by
  obtain ⟨A, c, hg, hc, hb⟩ := h
  obtain ⟨A', c', hg', _, _⟩ := hr
  exact ⟨A, c, (hk.block g (blk_lt hg) hne).trans hg, hc, hb.kp hg' hk⟩
theorem Rb.mv {w w1 : World} {T g : Nat} {l : List Int} {e : Int} (h : Rb w T g l e) (hb : Below w.heap.size w w1) : Rb w1 T g l e := by
  obtain ⟨A, c, hg, hc, h⟩ := h
  exact ⟨A, c, (hb.block g (blk_lt hg)).trans hg, hc, h.mv hb⟩
theorem Rb.alloc {w : World} {T g : Nat} {l : List Int} {e : Int} (h : Rb w T g l e) (o : Obj) : Rb (w.alloc o) T g l e := h.mv (below_alloc (Below.refl _ _) o)
theorem Rb.drew {w : World} {T g : Nat} {l : List Int} {e : Int} (h : Rb w T g l e) : Rb w.drew T g l e := h.mv (below_drew (Below.refl _ _))
theorem Rb.drewN {w : World} {T g : Nat} {l : List Int} {e : Int} (h : Rb w T g l e) (n : Nat) : Rb (w.drewN n) T g l e := h.mv (pw_below_drewN (Below.refl _ _) n)

/-- b[j:] and b[:j] as the walk runs them. -/
theorem from_run (A : Option Addr) (l : List Int) (c j : Nat) (hj : j ≤ l.length) (hc : l.length ≤ c) :
    ∃ A' : Option Addr, (∀ W : World, (Instr.slice 22 (.slice A l.length c) (some (.int .i64 (j : Int))) none none).run Try.prog W = .ok (.slice A' (l.length - j) (c - j)) W) ∧ ∀ w : World, BC w A l → BC w A' (l.drop j) := by
  obtain ⟨i0, hi, hzz⟩ := Option.map_eq_some_iff.1 info5
  simp only [Prod.mk.injEq] at hzz
  obtain ⟨A', h1, h2⟩ := print_cut (P := Try.prog) 22 5 .i64 Try.underlying22 hi hzz.2.1 A l.length c j hj
  refine ⟨A', h1, fun w h => ?_⟩
  have h3 := h2 w .u8 l hc (Kd.reads_of_C (enc := Value.int .u8) (d := (0 : Int)) h)
  have hl : (l.drop j).length = l.length - j := List.length_drop
  refine BC.of_reads (by rw [hl]; have := h.max; omega) ?_
  rw [hl]
  exact h3.2.2
theorem to_run (A : Option Addr) (l : List Int) (c j : Nat) (hj : j ≤ l.length) (hc : l.length ≤ c) :
    ∀ W : World, (Instr.slice 22 (.slice A l.length c) none (some (.int .i64 (j : Int))) none).run Try.prog W = .ok (.slice A j c) W := by
  obtain ⟨i0, hi, hzz⟩ := Option.map_eq_some_iff.1 info5
  exact cut_to (P := Try.prog) 22 5 .i64 Try.underlying22 hi A l.length c (j : Int) (by omega) (by omega) hc
end Go.Proofs.Ytkgjmajabgpadaa
