import Derived.Test.YtkgjmajabgpadaaD0
import Derived.Test.YtkgjmajabgpadaaD1
namespace Go.Proofs.Ytkgjmajabgpadaa
set_option linter.unusedVariables false
set_option linter.unusedSimpArgs false
open Go.RowKit Go.Proofs.YtkgjmajabgpadaaW.PrintWords Go.Proofs.YtkgjmajabgpadaaW.PrintLast Go.Proofs.YtkgjmajabgpadaaW.PrintMore
set_option maxHeartbeats 8000000 in
set_option maxRecDepth 100000 in
theorem octetOpens_walk {w : World} (v0 : Value) (l0 : List Int) (h0 : BV w v0 l0) (hb : bytesP l0) (hy : l0.length * 1 ≤ 140737488351232) :
    Calls Try.prog 4 #[v0] w fun e w' => e = .returned (.bool true) ∧ Below w.heap.size w w' := by
  have H0 := Aside0.mk h0
  have HBY := Aside0.mk hb
  have HY := Aside0.mk hy
  obtain ⟨r1, r2, r3, hr⟩ : ∃ r1 r2 r3, openS l0 = (r1, r2, r3) := ⟨_, _, _, rfl⟩
  have HR := Aside0.mk hr
  clear h0 hb hy hr
  go_enter Try.func4, Try.ntmps4
  go_wp2_with (first | (go_at_call 19; (with_reducible refine (copyBytes_v _ l0 _ ?s0 ?s1).mono ?_); (case s0 => exact H0.out); (case s1 => have := HY.out; omega); rintro e wA ⟨vin, rfl, ho, hb⟩; have HA := Aside0.mk hb; have HIN := Aside0.mk ho; clear ho hb) | (go_at_call 30; (with_reducible refine (oopen_v _ l0 r1 r2 r3 _ ?s0 ?s1 ?s2).mono ?_); (case s0 => exact HIN.out.bv); (case s1 => exact HBY.out); (case s2 => exact HR.out); rintro e wB ⟨vx, rfl, ho, hb⟩; have HB1 := Aside0.mk hb; have HX := Aside0.mk ho; clear ho hb) | (go_at_call 31; (with_reducible refine (ropen_v _ l0 r1 r2 r3 _ ?s0 ?s1 ?s2).mono ?_); (case s0 => exact (H0.out.mv HA.out).mv HB1.out); (case s1 => exact HBY.out); (case s2 => exact HR.out); rintro e wC ⟨vy, rfl, ho, hb⟩; have HC1 := Aside0.mk hb; have HYY := Aside0.mk ho; clear ho hb))
  obtain ⟨A, cap, g, hvx, hg, hA, hown⟩ := HX.out.form
  subst hvx
  have HGB := Aside0.mk hg
  have HAA := Aside0.mk hA
  have hml := HX.out.bc.max
  clear hown
  have HXC : Aside0 (BR wC wA.heap.size (.slice A r2.length cap) r2) := ⟨HX.out.mv HC1.out⟩
  have HGC : Aside0 (0 < r2.length → g < wB.heap.size) := ⟨fun h => (hA h).2⟩
  have HIC : Aside0 (BR wC w.heap.size vin l0) := ⟨(HIN.out.mv HB1.out).mv HC1.out⟩
  have HBC : Aside0 (Below w.heap.size w wC) := ⟨below_step (below_step HA.out HB1.out) HC1.out⟩
  have HNI : Aside0 (∀ k, vin.ownBlock = some k → k ≠ g) := ⟨fun k hk => by have := HIN.out.block_lt k hk; omega⟩
  have HNY : Aside0 (0 < r2.length → ∀ k, vy.ownBlock = some k → k ≠ g) := ⟨fun h k hk => by have := HYY.out.block_ge k hk; have := HGC.out h; omega⟩
  have HGW : Aside0 (w.heap.size ≤ g) := ⟨by have := HA.out.size; omega⟩
  clear hA hg
  go_loopg [10] r2.length (fun k v10 w' => ∃ (i : Nat) (xs : List Int), i + k = r2.length ∧ v10 = .int .i64 i ∧ Aside0 (xs.length = r2.length) ∧ Aside0 (BR w' wA.heap.size (.slice A r2.length cap) xs) ∧ Aside0 (BR w' w.heap.size vin l0) ∧ Aside0 (BR w' wB.heap.size vy r2) ∧ Aside0 (Below w.heap.size w w'))
  case atStart => exact ⟨0, r2, by omega, rfl, ⟨rfl⟩, HXC, HIC, HYY, HBC⟩
  case round =>
    clear HXC HIC HYY HBC
    obtain ⟨i, xs, hi, rfl, HL, HXW, HIW, HYW, HB⟩ := hrel
    by_cases h8 : i < r2.length
    · obtain ⟨g', rfl⟩ : ∃ g', gk = g' + 1 := ⟨gk - 1, by omega⟩
      obtain ⟨e1, _⟩ := HAA.out (by omega)
      subst e1
      obtain ⟨hc, hf⟩ := HXW.out.cell HL.out i h8
      obtain ⟨c, hcx⟩ : ∃ c, xs.getD i 0 = c := ⟨_, rfl⟩
      rw [hcx] at hc
      clear hcx
      have q1 : (i : Int) < (r2.length : Int) := by omega
      replace q1 := eq_true q1
      go_wp2
      go_roundg g'
      case measure => omega
      case rel => exact ⟨i + 1, _, by omega, by go_num, ⟨by rw [List.length_set]; exact HL.out⟩, ⟨HXW.out.put HL.out i _⟩, ⟨HIW.out.far i _ HNI.out⟩, ⟨HYW.out.far i _ (HNY.out (by omega))⟩, ⟨HB.out.setCell HGW.out _⟩⟩
    · go_wp2_with (first | (go_at_call 30; (with_reducible refine (oopen_v _ l0 r1 r2 r3 _ ?s0 ?s1 ?s2).mono ?_); (case s0 => exact HIW.out.bv); (case s1 => exact HBY.out); (case s2 => exact HR.out); rintro e wD ⟨vz, rfl, ho, hb⟩; have HZ := Aside0.mk ho; have HI2 := Aside0.mk (HIW.out.mv hb); have HY2 := Aside0.mk (HYW.out.mv hb); have n_ := Aside0.mk (below_step HB.out hb); clear HB; have HB := n_; clear n_ ho hb) | (go_at_call 26; (with_reducible refine (eqb_v _ _ r2 r2 _ ?s0 ?s1 rfl).mono ?_); (case s0 => exact HZ.out.bv); (case s1 => exact HY2.out.bv); rintro e w_26 ⟨rfl, rfl⟩) | (go_at_call 26; (with_reducible refine (eqb_v _ _ l0 l0 _ ?s0 ?s1 rfl).mono ?_); (case s0 => exact HI2.out.bv); (case s1 => exact H0.out.mv HB.out); rintro e w_26 ⟨rfl, rfl⟩) | (go_at_call 29; (with_reducible refine (works1_c _).mono ?_); rintro e wE ⟨rfl, hb⟩; have n_ := Aside0.mk (below_step HB.out hb); clear HB; have HB := n_; clear n_ hb))
      go_ret
      exact ⟨rfl, HB.out⟩

end Go.Proofs.Ytkgjmajabgpadaa
