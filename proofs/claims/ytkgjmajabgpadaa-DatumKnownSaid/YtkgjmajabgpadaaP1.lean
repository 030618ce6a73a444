import Derived.Test.YtkgjmajabgpadaaO1
import Derived.Test.YtkgjmajabgpadaaS6
import Derived.Test.YtkgjmajabgpadaaD1
namespace Go.Proofs.Ytkgjmajabgpadaa
set_option linter.unusedVariables false
set_option linter.unusedSimpArgs false
open Go.RowKit Go.Proofs.YtkgjmajabgpadaaW.PrintWords Go.Proofs.YtkgjmajabgpadaaW.PrintLast Go.Proofs.YtkgjmajabgpadaaW.PrintMore
set_option maxHeartbeats 8000000 in
set_option maxRecDepth 100000 in
theorem within_c (n m : Int) (w : World) : Calls Try.prog 71 #[.int .i64 n, .int .i64 m] w fun e w' => e = .returned (.bool (decide (0 ≤ n ∧ n ≤ m))) ∧ w = w' := by
  go_enter Try.func71, Try.ntmps71
  by_cases h0 : 0 ≤ n
  · have y0 : decide (0 ≤ n) = true := decide_eq_true h0
    by_cases h1 : n ≤ m
    · have y1 : decide (n ≤ m) = true := decide_eq_true h1
      have HE := Aside0.mk (show decide (0 ≤ n ∧ n ≤ m) = true from decide_eq_true ⟨h0, h1⟩)
      clear h0 h1
      go_wp2
      go_ret
      exact ⟨by rw [HE.out]; rfl, rfl⟩
    · have y1 : decide (n ≤ m) = false := decide_eq_false h1
      have HE := Aside0.mk (show decide (0 ≤ n ∧ n ≤ m) = false from decide_eq_false (fun h => h1 h.2))
      clear h0 h1
      go_wp2
      go_ret
      exact ⟨by rw [HE.out]; rfl, rfl⟩
  · have y0 : decide (0 ≤ n) = false := decide_eq_false h0
    have HE := Aside0.mk (show decide (0 ≤ n ∧ n ≤ m) = false from decide_eq_false (fun h => h0 h.1))
    clear h0
    go_wp2
    go_ret
    exact ⟨by rw [HE.out]; rfl, rfl⟩
set_option maxHeartbeats 8000000 in
set_option maxRecDepth 100000 in
theorem dcheck_c (v h i x y z : Int) (w : World) : Calls Try.prog 54 #[.agg #[.int .i64 v, .int .i64 h, .int .i64 i, .int .u8 x, .int .u8 y, .int .u8 z]] w fun e w' => e = .returned (.int .i64 (checkD v h i)) ∧ Below w.heap.size w w' := by
  have HB := Aside0.mk (Below.refl w.heap.size w)
  go_enter Try.func54, Try.ntmps54
  by_cases h0 : 0 ≤ v ∧ v ≤ 200
  · have D0 := Aside0.mk (decide_eq_true h0)
    by_cases h1 : 0 ≤ h ∧ h ≤ 12
    · have D1 := Aside0.mk (decide_eq_true h1)
      by_cases h2 : 0 ≤ i ∧ i ≤ 4294967295
      · have D2 := Aside0.mk (decide_eq_true h2)
        have HE := Aside0.mk (checkD_ok (show okD v h i from ⟨h0, h1, h2⟩))
        clear h0 h1 h2
        go_wp2_with (first | (go_at_call 71; (with_reducible refine (within_c v 200 _).mono ?_); rintro e w_q ⟨rfl, rfl⟩; rw [D0.out]) | (go_at_call 71; (with_reducible refine (within_c h 12 _).mono ?_); rintro e w_q ⟨rfl, rfl⟩; rw [D1.out]) | (go_at_call 71; (with_reducible refine (within_c i 4294967295 _).mono ?_); rintro e w_q ⟨rfl, rfl⟩; rw [D2.out]))
        go_ret
        exact ⟨by rw [HE.out]; rfl, (by repeat (first | (with_reducible first | exact HB.out | apply below_alloc | apply pw_below_drewN | apply below_drew1) | exact HB.out))⟩
      · have D2 := Aside0.mk (decide_eq_false h2)
        have HE := Aside0.mk (checkD_no (show ¬ okD v h i from fun hh => h2 hh.2.2))
        clear h0 h1 h2
        go_wp2_with (first | (go_at_call 71; (with_reducible refine (within_c v 200 _).mono ?_); rintro e w_q ⟨rfl, rfl⟩; rw [D0.out]) | (go_at_call 71; (with_reducible refine (within_c h 12 _).mono ?_); rintro e w_q ⟨rfl, rfl⟩; rw [D1.out]) | (go_at_call 71; (with_reducible refine (within_c i 4294967295 _).mono ?_); rintro e w_q ⟨rfl, rfl⟩; rw [D2.out]))
        go_ret
        exact ⟨by rw [HE.out]; rfl, (by repeat (first | (with_reducible first | exact HB.out | apply below_alloc | apply pw_below_drewN | apply below_drew1) | exact HB.out))⟩
    · have D1 := Aside0.mk (decide_eq_false h1)
      have HE := Aside0.mk (checkD_no (show ¬ okD v h i from fun hh => h1 hh.2.1))
      clear h0 h1
      go_wp2_with (first | (go_at_call 71; (with_reducible refine (within_c v 200 _).mono ?_); rintro e w_q ⟨rfl, rfl⟩; rw [D0.out]) | (go_at_call 71; (with_reducible refine (within_c h 12 _).mono ?_); rintro e w_q ⟨rfl, rfl⟩; rw [D1.out]))
      go_ret
      exact ⟨by rw [HE.out]; rfl, (by repeat (first | (with_reducible first | exact HB.out | apply below_alloc | apply pw_below_drewN | apply below_drew1) | exact HB.out))⟩
  · have D0 := Aside0.mk (decide_eq_false h0)
    have HE := Aside0.mk (checkD_no (show ¬ okD v h i from fun hh => h0 hh.1))
    clear h0
    go_wp2_with (first | (go_at_call 71; (with_reducible refine (within_c v 200 _).mono ?_); rintro e w_q ⟨rfl, rfl⟩; rw [D0.out]))
    go_ret
    exact ⟨by rw [HE.out]; rfl, (by repeat (first | (with_reducible first | exact HB.out | apply below_alloc | apply pw_below_drewN | apply below_drew1) | exact HB.out))⟩
set_option maxHeartbeats 8000000 in
set_option maxRecDepth 100000 in
theorem dcheckr_c (v h i x y z : Int) (w : World) : Calls Try.prog 55 #[.agg #[.int .i64 v, .int .i64 h, .int .i64 i, .int .u8 x, .int .u8 y, .int .u8 z]] w fun e w' => e = .returned (.int .i64 (checkD v h i)) ∧ Below w.heap.size w w' := by
  have HB := Aside0.mk (Below.refl w.heap.size w)
  go_enter Try.func55, Try.ntmps55
  by_cases c0 : v < 0
  · have d0 : decide (v < 0) = true := decide_eq_true c0
    have HE := Aside0.mk (checkD_no (show ¬ okD v h i from fun hh => by obtain ⟨⟨_, _⟩, ⟨_, _⟩, _, _⟩ := hh; omega))
    clear c0
    go_wp2
    go_ret
    exact ⟨by rw [HE.out]; rfl, (by repeat (first | (with_reducible first | exact HB.out | apply below_alloc | apply pw_below_drewN | apply below_drew1) | exact HB.out))⟩
  · have d0 : decide (v < 0) = false := decide_eq_false c0
    by_cases c1 : 200 < v
    · have d1 : decide (200 < v) = true := decide_eq_true c1
      have HE := Aside0.mk (checkD_no (show ¬ okD v h i from fun hh => by obtain ⟨⟨_, _⟩, ⟨_, _⟩, _, _⟩ := hh; omega))
      clear c0 c1
      go_wp2
      go_ret
      exact ⟨by rw [HE.out]; rfl, (by repeat (first | (with_reducible first | exact HB.out | apply below_alloc | apply pw_below_drewN | apply below_drew1) | exact HB.out))⟩
    · have d1 : decide (200 < v) = false := decide_eq_false c1
      by_cases c2 : h < 0
      · have d2 : decide (h < 0) = true := decide_eq_true c2
        have HE := Aside0.mk (checkD_no (show ¬ okD v h i from fun hh => by obtain ⟨⟨_, _⟩, ⟨_, _⟩, _, _⟩ := hh; omega))
        clear c0 c1 c2
        go_wp2
        go_ret
        exact ⟨by rw [HE.out]; rfl, (by repeat (first | (with_reducible first | exact HB.out | apply below_alloc | apply pw_below_drewN | apply below_drew1) | exact HB.out))⟩
      · have d2 : decide (h < 0) = false := decide_eq_false c2
        by_cases c3 : 12 < h
        · have d3 : decide (12 < h) = true := decide_eq_true c3
          have HE := Aside0.mk (checkD_no (show ¬ okD v h i from fun hh => by obtain ⟨⟨_, _⟩, ⟨_, _⟩, _, _⟩ := hh; omega))
          clear c0 c1 c2 c3
          go_wp2
          go_ret
          exact ⟨by rw [HE.out]; rfl, (by repeat (first | (with_reducible first | exact HB.out | apply below_alloc | apply pw_below_drewN | apply below_drew1) | exact HB.out))⟩
        · have d3 : decide (12 < h) = false := decide_eq_false c3
          by_cases c4 : i < 0
          · have d4 : decide (i < 0) = true := decide_eq_true c4
            have HE := Aside0.mk (checkD_no (show ¬ okD v h i from fun hh => by obtain ⟨⟨_, _⟩, ⟨_, _⟩, _, _⟩ := hh; omega))
            clear c0 c1 c2 c3 c4
            go_wp2
            go_ret
            exact ⟨by rw [HE.out]; rfl, (by repeat (first | (with_reducible first | exact HB.out | apply below_alloc | apply pw_below_drewN | apply below_drew1) | exact HB.out))⟩
          · have d4 : decide (i < 0) = false := decide_eq_false c4
            by_cases c5 : 4294967295 < i
            · have d5 : decide (4294967295 < i) = true := decide_eq_true c5
              have HE := Aside0.mk (checkD_no (show ¬ okD v h i from fun hh => by obtain ⟨⟨_, _⟩, ⟨_, _⟩, _, _⟩ := hh; omega))
              clear c0 c1 c2 c3 c4 c5
              go_wp2
              go_ret
              exact ⟨by rw [HE.out]; rfl, (by repeat (first | (with_reducible first | exact HB.out | apply below_alloc | apply pw_below_drewN | apply below_drew1) | exact HB.out))⟩
            · have d5 : decide (4294967295 < i) = false := decide_eq_false c5
              have HE := Aside0.mk (checkD_ok (show okD v h i from ⟨⟨by omega, by omega⟩, ⟨by omega, by omega⟩, by omega, by omega⟩))
              clear c0 c1 c2 c3 c4 c5
              go_wp2
              go_ret
              exact ⟨by rw [HE.out]; rfl, (by repeat (first | (with_reducible first | exact HB.out | apply below_alloc | apply pw_below_drewN | apply below_drew1) | exact HB.out))⟩

end Go.Proofs.Ytkgjmajabgpadaa
