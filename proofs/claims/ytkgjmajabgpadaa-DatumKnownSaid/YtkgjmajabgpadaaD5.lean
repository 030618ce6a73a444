import Derived.Test.YtkgjmajabgpadaaD0
import Derived.Test.YtkgjmajabgpadaaS4
namespace Go.Proofs.Ytkgjmajabgpadaa
set_option linter.unusedVariables false
set_option linter.unusedSimpArgs false
open Go.RowKit Go.Proofs.YtkgjmajabgpadaaW.PrintWords Go.Proofs.YtkgjmajabgpadaaW.PrintLast Go.Proofs.YtkgjmajabgpadaaW.PrintMore
set_option maxHeartbeats 8000000 in
set_option maxRecDepth 100000 in
theorem bring_c (i n : Int) (w : World) (h1 : (Lit.int .i64 i).wf = true) (hn : 0 < n) (hn2 : n ≤ 4611686018427387904) :
    Calls Try.prog 32 #[.int .i64 i, .int .i64 n] w fun e w' => e = .returned (.int .i64 (i % n)) ∧ w = w' := by
  obtain ⟨a1, a2⟩ := wf_int h1
  have hm := Int.tmod_def i n
  have k0 : (n == 0) = false := beq_eq_false_iff_ne.mpr (by omega)
  have e0 := Int.emod_nonneg i (show n ≠ 0 by omega)
  have e1 := Int.emod_lt_of_pos i hn
  have ht : i.tmod n = if 0 ≤ i ∨ n ∣ i then i % n else i % n - n := by
    rw [Int.tmod_eq_emod]
    split
    · simp
    · rw [Int.natAbs_of_nonneg (by omega)]
  by_cases hc : 0 ≤ i ∨ n ∣ i
  · rw [if_pos hc] at ht
    obtain ⟨r, hr⟩ : ∃ r, i % n = r := ⟨_, rfl⟩
    rw [hr] at ht e0 e1
    rw [hr]
    have z : decide (r < 0) = false := decide_eq_false (by omega)
    clear hm hc hr
    go_enter Try.func32, Try.ntmps32
    go_wp2
    go_ret
    exact ⟨rfl, rfl⟩
  · rw [if_neg hc] at ht
    obtain ⟨r, hr⟩ : ∃ r, i % n = r := ⟨_, rfl⟩
    rw [hr] at ht e0 e1
    rw [hr]
    obtain ⟨t, ht2⟩ : ∃ t, t = r - n := ⟨_, rfl⟩
    rw [← ht2] at ht
    have HT := Aside0.mk ht2
    have z : decide (t < 0) = true := decide_eq_true (by omega)
    have b1 : -4611686018427387904 ≤ t := by omega
    have b2 : t < 0 := by omega
    clear hm hc hr ht2
    go_enter Try.func32, Try.ntmps32
    go_wp2
    go_ret
    exact ⟨by rw [show r = t + n by have := HT.out; omega]; rfl, rfl⟩

end Go.Proofs.Ytkgjmajabgpadaa
