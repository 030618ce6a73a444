import Derived.Test.YtkgjmajabgpadaaO2
import Derived.Test.YtkgjmajabgpadaaS10
import Derived.Test.YtkgjmajabgpadaaD1
namespace Go.Proofs.Ytkgjmajabgpadaa
set_option linter.unusedVariables false
set_option linter.unusedSimpArgs false
open Go.RowKit Go.Proofs.YtkgjmajabgpadaaW.PrintWords Go.Proofs.YtkgjmajabgpadaaW.PrintLast Go.Proofs.YtkgjmajabgpadaaW.PrintMore
set_option maxHeartbeats 8000000 in
set_option maxRecDepth 100000 in
theorem end_c (s p : Int) (w : World) : Calls Try.prog 67 #[.int .i64 s, .int .i64 p] w fun e w' => e = .returned (.bool (decide (endP s p))) ∧ w = w' := by
  go_enter Try.func67, Try.ntmps67
  by_cases c0 : 1 ≤ s
  · have d0 : decide (1 ≤ s) = true := decide_eq_true c0
    have d0' : decide (s ≥ 1) = true := decide_eq_true c0
    by_cases c1 : s ≤ 6
    · have d1 : decide (s ≤ 6) = true := decide_eq_true c1
      by_cases c2 : 1 ≤ p
      · have d2 : decide (1 ≤ p) = true := decide_eq_true c2
        have d2' : decide (p ≥ 1) = true := decide_eq_true c2
        by_cases c3 : p ≤ 4
        · have d3 : decide (p ≤ 4) = true := decide_eq_true c3
          have HE := Aside0.mk (show decide (endP s p) = true from decide_eq_true ⟨⟨c0, c1⟩, c2, c3⟩)
          clear c0 c1 c2 c3
          go_wp2
          go_ret
          exact ⟨by rw [HE.out]; rfl, rfl⟩
        · have d3 : decide (p ≤ 4) = false := decide_eq_false c3
          have HE := Aside0.mk (show decide (endP s p) = false from decide_eq_false (fun h => c3 h.2.2))
          clear c0 c1 c2 c3
          go_wp2
          go_ret
          exact ⟨by rw [HE.out]; rfl, rfl⟩
      · have d2 : decide (1 ≤ p) = false := decide_eq_false c2
        have d2' : decide (p ≥ 1) = false := decide_eq_false c2
        have HE := Aside0.mk (show decide (endP s p) = false from decide_eq_false (fun h => c2 h.2.1))
        clear c0 c1 c2
        go_wp2
        go_ret
        exact ⟨by rw [HE.out]; rfl, rfl⟩
    · have d1 : decide (s ≤ 6) = false := decide_eq_false c1
      have HE := Aside0.mk (show decide (endP s p) = false from decide_eq_false (fun h => c1 h.1.2))
      clear c0 c1
      go_wp2
      go_ret
      exact ⟨by rw [HE.out]; rfl, rfl⟩
  · have d0 : decide (1 ≤ s) = false := decide_eq_false c0
    have d0' : decide (s ≥ 1) = false := decide_eq_false c0
    have HE := Aside0.mk (show decide (endP s p) = false from decide_eq_false (fun h => c0 h.1.1))
    clear c0
    go_wp2
    go_ret
    exact ⟨by rw [HE.out]; rfl, rfl⟩
set_option maxHeartbeats 8000000 in
set_option maxRecDepth 100000 in
theorem endr_c (s p : Int) (w : World) : Calls Try.prog 68 #[.int .i64 s, .int .i64 p] w fun e w' => e = .returned (.bool (decide (endP s p))) ∧ w = w' := by
  go_enter Try.func68, Try.ntmps68
  by_cases c0 : 1 ≤ s
  · have d0 : decide (1 ≤ s) = true := decide_eq_true c0
    have d0' : decide (s ≥ 1) = true := decide_eq_true c0
    by_cases c1 : s ≤ 6
    · have d1 : decide (s ≤ 6) = true := decide_eq_true c1
      by_cases c2 : 1 ≤ p
      · have d2 : decide (1 ≤ p) = true := decide_eq_true c2
        have d2' : decide (p ≥ 1) = true := decide_eq_true c2
        by_cases c3 : p ≤ 4
        · have d3 : decide (p ≤ 4) = true := decide_eq_true c3
          have HE := Aside0.mk (show decide (endP s p) = true from decide_eq_true ⟨⟨c0, c1⟩, c2, c3⟩)
          clear c0 c1 c2 c3
          go_wp2
          go_ret
          exact ⟨by rw [HE.out]; rfl, rfl⟩
        · have d3 : decide (p ≤ 4) = false := decide_eq_false c3
          have HE := Aside0.mk (show decide (endP s p) = false from decide_eq_false (fun h => c3 h.2.2))
          clear c0 c1 c2 c3
          go_wp2
          go_ret
          exact ⟨by rw [HE.out]; rfl, rfl⟩
      · have d2 : decide (1 ≤ p) = false := decide_eq_false c2
        have d2' : decide (p ≥ 1) = false := decide_eq_false c2
        have HE := Aside0.mk (show decide (endP s p) = false from decide_eq_false (fun h => c2 h.2.1))
        clear c0 c1 c2
        go_wp2
        go_ret
        exact ⟨by rw [HE.out]; rfl, rfl⟩
    · have d1 : decide (s ≤ 6) = false := decide_eq_false c1
      have HE := Aside0.mk (show decide (endP s p) = false from decide_eq_false (fun h => c1 h.1.2))
      clear c0 c1
      go_wp2
      go_ret
      exact ⟨by rw [HE.out]; rfl, rfl⟩
  · have d0 : decide (1 ≤ s) = false := decide_eq_false c0
    have d0' : decide (s ≥ 1) = false := decide_eq_false c0
    have HE := Aside0.mk (show decide (endP s p) = false from decide_eq_false (fun h => c0 h.1.1))
    clear c0
    go_wp2
    go_ret
    exact ⟨by rw [HE.out]; rfl, rfl⟩
set_option maxHeartbeats 8000000 in
set_option maxRecDepth 100000 in
theorem pcheck_c (a b c d n : Int) (w : World) : Calls Try.prog 35 #[.agg #[.int .i64 a, .int .i64 b, .int .i64 c, .int .i64 d, .int .i64 n]] w fun e w' => e = .returned (.int .i64 (checkP a b c d n)) ∧ Below w.heap.size w w' := by
  have HB := Aside0.mk (Below.refl w.heap.size w)
  go_enter Try.func35, Try.ntmps35
  by_cases hc : c = 0
  · have z0 : (c == 0) = true := by simp [hc]
    by_cases hd : d = 0
    · have z1 : (d == 0) = true := by simp [hd]
      by_cases h1 : endP a b
      · have D1 := Aside0.mk (decide_eq_true h1)
        by_cases c8 : n < 0
        · have d8 : decide (n < 0) = true := decide_eq_true c8
          have HE := Aside0.mk (checkP_no (show ¬ okP a b c d n from fun hh => by have := hh.2.2; omega))
          clear hc hd h1 c8
          go_wp2_with (first | (go_at_call 67; (with_reducible refine (end_c a b _).mono ?_); rintro e w_q ⟨rfl, rfl⟩; rw [D1.out]))
          go_ret
          exact ⟨by rw [HE.out]; rfl, (by repeat (first | (with_reducible first | exact HB.out | apply below_alloc | apply pw_below_drewN | apply below_drew1) | exact HB.out))⟩
        · have d8 : decide (n < 0) = false := decide_eq_false c8
          by_cases c9 : 65535 < n
          · have d9 : decide (65535 < n) = true := decide_eq_true c9
            have HE := Aside0.mk (checkP_no (show ¬ okP a b c d n from fun hh => by have := hh.2.2; omega))
            clear hc hd h1 c8 c9
            go_wp2_with (first | (go_at_call 67; (with_reducible refine (end_c a b _).mono ?_); rintro e w_q ⟨rfl, rfl⟩; rw [D1.out]))
            go_ret
            exact ⟨by rw [HE.out]; rfl, (by repeat (first | (with_reducible first | exact HB.out | apply below_alloc | apply pw_below_drewN | apply below_drew1) | exact HB.out))⟩
          · have d9 : decide (65535 < n) = false := decide_eq_false c9
            have HE := Aside0.mk (checkP_ok (show okP a b c d n from ⟨h1, .inl ⟨hc, hd⟩, by omega, by omega⟩))
            clear hc hd h1 c8 c9
            go_wp2_with (first | (go_at_call 67; (with_reducible refine (end_c a b _).mono ?_); rintro e w_q ⟨rfl, rfl⟩; rw [D1.out]))
            go_ret
            exact ⟨by rw [HE.out]; rfl, (by repeat (first | (with_reducible first | exact HB.out | apply below_alloc | apply pw_below_drewN | apply below_drew1) | exact HB.out))⟩
      · have D1 := Aside0.mk (decide_eq_false h1)
        have HE := Aside0.mk (checkP_no (show ¬ okP a b c d n from fun hh => h1 hh.1))
        clear hc hd h1
        go_wp2_with (first | (go_at_call 67; (with_reducible refine (end_c a b _).mono ?_); rintro e w_q ⟨rfl, rfl⟩; rw [D1.out]))
        go_ret
        exact ⟨by rw [HE.out]; rfl, (by repeat (first | (with_reducible first | exact HB.out | apply below_alloc | apply pw_below_drewN | apply below_drew1) | exact HB.out))⟩
    · have z1 : (d == 0) = false := by simp [hd]
      have hnb : ¬ (c = 0 ∧ d = 0) := fun h => hd h.2
      by_cases h1 : endP a b
      · have D1 := Aside0.mk (decide_eq_true h1)
        by_cases h2 : endP c d
        · have D2 := Aside0.mk (decide_eq_true h2)
          by_cases c8 : n < 0
          · have d8 : decide (n < 0) = true := decide_eq_true c8
            have HE := Aside0.mk (checkP_no (show ¬ okP a b c d n from fun hh => by have := hh.2.2; omega))
            clear hc hd hnb h1 h2 c8
            go_wp2_with (first | (go_at_call 67; (with_reducible refine (end_c a b _).mono ?_); rintro e w_q ⟨rfl, rfl⟩; rw [D1.out]) | (go_at_call 67; (with_reducible refine (end_c c d _).mono ?_); rintro e w_q ⟨rfl, rfl⟩; rw [D2.out]))
            go_ret
            exact ⟨by rw [HE.out]; rfl, (by repeat (first | (with_reducible first | exact HB.out | apply below_alloc | apply pw_below_drewN | apply below_drew1) | exact HB.out))⟩
          · have d8 : decide (n < 0) = false := decide_eq_false c8
            by_cases c9 : 65535 < n
            · have d9 : decide (65535 < n) = true := decide_eq_true c9
              have HE := Aside0.mk (checkP_no (show ¬ okP a b c d n from fun hh => by have := hh.2.2; omega))
              clear hc hd hnb h1 h2 c8 c9
              go_wp2_with (first | (go_at_call 67; (with_reducible refine (end_c a b _).mono ?_); rintro e w_q ⟨rfl, rfl⟩; rw [D1.out]) | (go_at_call 67; (with_reducible refine (end_c c d _).mono ?_); rintro e w_q ⟨rfl, rfl⟩; rw [D2.out]))
              go_ret
              exact ⟨by rw [HE.out]; rfl, (by repeat (first | (with_reducible first | exact HB.out | apply below_alloc | apply pw_below_drewN | apply below_drew1) | exact HB.out))⟩
            · have d9 : decide (65535 < n) = false := decide_eq_false c9
              have HE := Aside0.mk (checkP_ok (show okP a b c d n from ⟨h1, .inr h2, by omega, by omega⟩))
              clear hc hd hnb h1 h2 c8 c9
              go_wp2_with (first | (go_at_call 67; (with_reducible refine (end_c a b _).mono ?_); rintro e w_q ⟨rfl, rfl⟩; rw [D1.out]) | (go_at_call 67; (with_reducible refine (end_c c d _).mono ?_); rintro e w_q ⟨rfl, rfl⟩; rw [D2.out]))
              go_ret
              exact ⟨by rw [HE.out]; rfl, (by repeat (first | (with_reducible first | exact HB.out | apply below_alloc | apply pw_below_drewN | apply below_drew1) | exact HB.out))⟩
        · have D2 := Aside0.mk (decide_eq_false h2)
          have HE := Aside0.mk (checkP_no (show ¬ okP a b c d n from fun hh => hh.2.1.elim hnb h2))
          clear hc hd hnb h1 h2
          go_wp2_with (first | (go_at_call 67; (with_reducible refine (end_c a b _).mono ?_); rintro e w_q ⟨rfl, rfl⟩; rw [D1.out]) | (go_at_call 67; (with_reducible refine (end_c c d _).mono ?_); rintro e w_q ⟨rfl, rfl⟩; rw [D2.out]))
          go_ret
          exact ⟨by rw [HE.out]; rfl, (by repeat (first | (with_reducible first | exact HB.out | apply below_alloc | apply pw_below_drewN | apply below_drew1) | exact HB.out))⟩
      · have D1 := Aside0.mk (decide_eq_false h1)
        have HE := Aside0.mk (checkP_no (show ¬ okP a b c d n from fun hh => h1 hh.1))
        clear hc hd hnb h1
        go_wp2_with (first | (go_at_call 67; (with_reducible refine (end_c a b _).mono ?_); rintro e w_q ⟨rfl, rfl⟩; rw [D1.out]))
        go_ret
        exact ⟨by rw [HE.out]; rfl, (by repeat (first | (with_reducible first | exact HB.out | apply below_alloc | apply pw_below_drewN | apply below_drew1) | exact HB.out))⟩
  · have z0 : (c == 0) = false := by simp [hc]
    have hnb : ¬ (c = 0 ∧ d = 0) := fun h => hc h.1
    by_cases h1 : endP a b
    · have D1 := Aside0.mk (decide_eq_true h1)
      by_cases h2 : endP c d
      · have D2 := Aside0.mk (decide_eq_true h2)
        by_cases c8 : n < 0
        · have d8 : decide (n < 0) = true := decide_eq_true c8
          have HE := Aside0.mk (checkP_no (show ¬ okP a b c d n from fun hh => by have := hh.2.2; omega))
          clear hc hnb h1 h2 c8
          go_wp2_with (first | (go_at_call 67; (with_reducible refine (end_c a b _).mono ?_); rintro e w_q ⟨rfl, rfl⟩; rw [D1.out]) | (go_at_call 67; (with_reducible refine (end_c c d _).mono ?_); rintro e w_q ⟨rfl, rfl⟩; rw [D2.out]))
          go_ret
          exact ⟨by rw [HE.out]; rfl, (by repeat (first | (with_reducible first | exact HB.out | apply below_alloc | apply pw_below_drewN | apply below_drew1) | exact HB.out))⟩
        · have d8 : decide (n < 0) = false := decide_eq_false c8
          by_cases c9 : 65535 < n
          · have d9 : decide (65535 < n) = true := decide_eq_true c9
            have HE := Aside0.mk (checkP_no (show ¬ okP a b c d n from fun hh => by have := hh.2.2; omega))
            clear hc hnb h1 h2 c8 c9
            go_wp2_with (first | (go_at_call 67; (with_reducible refine (end_c a b _).mono ?_); rintro e w_q ⟨rfl, rfl⟩; rw [D1.out]) | (go_at_call 67; (with_reducible refine (end_c c d _).mono ?_); rintro e w_q ⟨rfl, rfl⟩; rw [D2.out]))
            go_ret
            exact ⟨by rw [HE.out]; rfl, (by repeat (first | (with_reducible first | exact HB.out | apply below_alloc | apply pw_below_drewN | apply below_drew1) | exact HB.out))⟩
          · have d9 : decide (65535 < n) = false := decide_eq_false c9
            have HE := Aside0.mk (checkP_ok (show okP a b c d n from ⟨h1, .inr h2, by omega, by omega⟩))
            clear hc hnb h1 h2 c8 c9
            go_wp2_with (first | (go_at_call 67; (with_reducible refine (end_c a b _).mono ?_); rintro e w_q ⟨rfl, rfl⟩; rw [D1.out]) | (go_at_call 67; (with_reducible refine (end_c c d _).mono ?_); rintro e w_q ⟨rfl, rfl⟩; rw [D2.out]))
            go_ret
            exact ⟨by rw [HE.out]; rfl, (by repeat (first | (with_reducible first | exact HB.out | apply below_alloc | apply pw_below_drewN | apply below_drew1) | exact HB.out))⟩
      · have D2 := Aside0.mk (decide_eq_false h2)
        have HE := Aside0.mk (checkP_no (show ¬ okP a b c d n from fun hh => hh.2.1.elim hnb h2))
        clear hc hnb h1 h2
        go_wp2_with (first | (go_at_call 67; (with_reducible refine (end_c a b _).mono ?_); rintro e w_q ⟨rfl, rfl⟩; rw [D1.out]) | (go_at_call 67; (with_reducible refine (end_c c d _).mono ?_); rintro e w_q ⟨rfl, rfl⟩; rw [D2.out]))
        go_ret
        exact ⟨by rw [HE.out]; rfl, (by repeat (first | (with_reducible first | exact HB.out | apply below_alloc | apply pw_below_drewN | apply below_drew1) | exact HB.out))⟩
    · have D1 := Aside0.mk (decide_eq_false h1)
      have HE := Aside0.mk (checkP_no (show ¬ okP a b c d n from fun hh => h1 hh.1))
      clear hc hnb h1
      go_wp2_with (first | (go_at_call 67; (with_reducible refine (end_c a b _).mono ?_); rintro e w_q ⟨rfl, rfl⟩; rw [D1.out]))
      go_ret
      exact ⟨by rw [HE.out]; rfl, (by repeat (first | (with_reducible first | exact HB.out | apply below_alloc | apply pw_below_drewN | apply below_drew1) | exact HB.out))⟩
set_option maxHeartbeats 8000000 in
set_option maxRecDepth 100000 in
theorem pcheckr_c (a b c d n : Int) (w : World) : Calls Try.prog 36 #[.agg #[.int .i64 a, .int .i64 b, .int .i64 c, .int .i64 d, .int .i64 n]] w fun e w' => e = .returned (.int .i64 (checkP a b c d n)) ∧ Below w.heap.size w w' := by
  have HB := Aside0.mk (Below.refl w.heap.size w)
  go_enter Try.func36, Try.ntmps36
  by_cases hc : c = 0
  · have z0 : (c == 0) = true := by simp [hc]
    by_cases hd : d = 0
    · have z1 : (d == 0) = true := by simp [hd]
      by_cases h1 : endP a b
      · have D1 := Aside0.mk (decide_eq_true h1)
        by_cases c8 : n < 0
        · have d8 : decide (n < 0) = true := decide_eq_true c8
          have HE := Aside0.mk (checkP_no (show ¬ okP a b c d n from fun hh => by have := hh.2.2; omega))
          clear hc hd h1 c8
          go_wp2_with (first | (go_at_call 68; (with_reducible refine (endr_c a b _).mono ?_); rintro e w_q ⟨rfl, rfl⟩; rw [D1.out]))
          go_ret
          exact ⟨by rw [HE.out]; rfl, (by repeat (first | (with_reducible first | exact HB.out | apply below_alloc | apply pw_below_drewN | apply below_drew1) | exact HB.out))⟩
        · have d8 : decide (n < 0) = false := decide_eq_false c8
          by_cases c9 : 65535 < n
          · have d9 : decide (65535 < n) = true := decide_eq_true c9
            have HE := Aside0.mk (checkP_no (show ¬ okP a b c d n from fun hh => by have := hh.2.2; omega))
            clear hc hd h1 c8 c9
            go_wp2_with (first | (go_at_call 68; (with_reducible refine (endr_c a b _).mono ?_); rintro e w_q ⟨rfl, rfl⟩; rw [D1.out]))
            go_ret
            exact ⟨by rw [HE.out]; rfl, (by repeat (first | (with_reducible first | exact HB.out | apply below_alloc | apply pw_below_drewN | apply below_drew1) | exact HB.out))⟩
          · have d9 : decide (65535 < n) = false := decide_eq_false c9
            have HE := Aside0.mk (checkP_ok (show okP a b c d n from ⟨h1, .inl ⟨hc, hd⟩, by omega, by omega⟩))
            clear hc hd h1 c8 c9
            go_wp2_with (first | (go_at_call 68; (with_reducible refine (endr_c a b _).mono ?_); rintro e w_q ⟨rfl, rfl⟩; rw [D1.out]))
            go_ret
            exact ⟨by rw [HE.out]; rfl, (by repeat (first | (with_reducible first | exact HB.out | apply below_alloc | apply pw_below_drewN | apply below_drew1) | exact HB.out))⟩
      · have D1 := Aside0.mk (decide_eq_false h1)
        have HE := Aside0.mk (checkP_no (show ¬ okP a b c d n from fun hh => h1 hh.1))
        clear hc hd h1
        go_wp2_with (first | (go_at_call 68; (with_reducible refine (endr_c a b _).mono ?_); rintro e w_q ⟨rfl, rfl⟩; rw [D1.out]))
        go_ret
        exact ⟨by rw [HE.out]; rfl, (by repeat (first | (with_reducible first | exact HB.out | apply below_alloc | apply pw_below_drewN | apply below_drew1) | exact HB.out))⟩
    · have z1 : (d == 0) = false := by simp [hd]
      have hnb : ¬ (c = 0 ∧ d = 0) := fun h => hd h.2
      by_cases h2 : endP c d
      · have D2 := Aside0.mk (decide_eq_true h2)
        by_cases h1 : endP a b
        · have D1 := Aside0.mk (decide_eq_true h1)
          by_cases c8 : n < 0
          · have d8 : decide (n < 0) = true := decide_eq_true c8
            have HE := Aside0.mk (checkP_no (show ¬ okP a b c d n from fun hh => by have := hh.2.2; omega))
            clear hc hd hnb h2 h1 c8
            go_wp2_with (first | (go_at_call 68; (with_reducible refine (endr_c c d _).mono ?_); rintro e w_q ⟨rfl, rfl⟩; rw [D2.out]) | (go_at_call 68; (with_reducible refine (endr_c a b _).mono ?_); rintro e w_q ⟨rfl, rfl⟩; rw [D1.out]))
            go_ret
            exact ⟨by rw [HE.out]; rfl, (by repeat (first | (with_reducible first | exact HB.out | apply below_alloc | apply pw_below_drewN | apply below_drew1) | exact HB.out))⟩
          · have d8 : decide (n < 0) = false := decide_eq_false c8
            by_cases c9 : 65535 < n
            · have d9 : decide (65535 < n) = true := decide_eq_true c9
              have HE := Aside0.mk (checkP_no (show ¬ okP a b c d n from fun hh => by have := hh.2.2; omega))
              clear hc hd hnb h2 h1 c8 c9
              go_wp2_with (first | (go_at_call 68; (with_reducible refine (endr_c c d _).mono ?_); rintro e w_q ⟨rfl, rfl⟩; rw [D2.out]) | (go_at_call 68; (with_reducible refine (endr_c a b _).mono ?_); rintro e w_q ⟨rfl, rfl⟩; rw [D1.out]))
              go_ret
              exact ⟨by rw [HE.out]; rfl, (by repeat (first | (with_reducible first | exact HB.out | apply below_alloc | apply pw_below_drewN | apply below_drew1) | exact HB.out))⟩
            · have d9 : decide (65535 < n) = false := decide_eq_false c9
              have HE := Aside0.mk (checkP_ok (show okP a b c d n from ⟨h1, .inr h2, by omega, by omega⟩))
              clear hc hd hnb h2 h1 c8 c9
              go_wp2_with (first | (go_at_call 68; (with_reducible refine (endr_c c d _).mono ?_); rintro e w_q ⟨rfl, rfl⟩; rw [D2.out]) | (go_at_call 68; (with_reducible refine (endr_c a b _).mono ?_); rintro e w_q ⟨rfl, rfl⟩; rw [D1.out]))
              go_ret
              exact ⟨by rw [HE.out]; rfl, (by repeat (first | (with_reducible first | exact HB.out | apply below_alloc | apply pw_below_drewN | apply below_drew1) | exact HB.out))⟩
        · have D1 := Aside0.mk (decide_eq_false h1)
          have HE := Aside0.mk (checkP_no (show ¬ okP a b c d n from fun hh => h1 hh.1))
          clear hc hd hnb h2 h1
          go_wp2_with (first | (go_at_call 68; (with_reducible refine (endr_c c d _).mono ?_); rintro e w_q ⟨rfl, rfl⟩; rw [D2.out]) | (go_at_call 68; (with_reducible refine (endr_c a b _).mono ?_); rintro e w_q ⟨rfl, rfl⟩; rw [D1.out]))
          go_ret
          exact ⟨by rw [HE.out]; rfl, (by repeat (first | (with_reducible first | exact HB.out | apply below_alloc | apply pw_below_drewN | apply below_drew1) | exact HB.out))⟩
      · have D2 := Aside0.mk (decide_eq_false h2)
        have HE := Aside0.mk (checkP_no (show ¬ okP a b c d n from fun hh => hh.2.1.elim hnb h2))
        clear hc hd hnb h2
        go_wp2_with (first | (go_at_call 68; (with_reducible refine (endr_c c d _).mono ?_); rintro e w_q ⟨rfl, rfl⟩; rw [D2.out]))
        go_ret
        exact ⟨by rw [HE.out]; rfl, (by repeat (first | (with_reducible first | exact HB.out | apply below_alloc | apply pw_below_drewN | apply below_drew1) | exact HB.out))⟩
  · have z0 : (c == 0) = false := by simp [hc]
    have hnb : ¬ (c = 0 ∧ d = 0) := fun h => hc h.1
    by_cases h2 : endP c d
    · have D2 := Aside0.mk (decide_eq_true h2)
      by_cases h1 : endP a b
      · have D1 := Aside0.mk (decide_eq_true h1)
        by_cases c8 : n < 0
        · have d8 : decide (n < 0) = true := decide_eq_true c8
          have HE := Aside0.mk (checkP_no (show ¬ okP a b c d n from fun hh => by have := hh.2.2; omega))
          clear hc hnb h2 h1 c8
          go_wp2_with (first | (go_at_call 68; (with_reducible refine (endr_c c d _).mono ?_); rintro e w_q ⟨rfl, rfl⟩; rw [D2.out]) | (go_at_call 68; (with_reducible refine (endr_c a b _).mono ?_); rintro e w_q ⟨rfl, rfl⟩; rw [D1.out]))
          go_ret
          exact ⟨by rw [HE.out]; rfl, (by repeat (first | (with_reducible first | exact HB.out | apply below_alloc | apply pw_below_drewN | apply below_drew1) | exact HB.out))⟩
        · have d8 : decide (n < 0) = false := decide_eq_false c8
          by_cases c9 : 65535 < n
          · have d9 : decide (65535 < n) = true := decide_eq_true c9
            have HE := Aside0.mk (checkP_no (show ¬ okP a b c d n from fun hh => by have := hh.2.2; omega))
            clear hc hnb h2 h1 c8 c9
            go_wp2_with (first | (go_at_call 68; (with_reducible refine (endr_c c d _).mono ?_); rintro e w_q ⟨rfl, rfl⟩; rw [D2.out]) | (go_at_call 68; (with_reducible refine (endr_c a b _).mono ?_); rintro e w_q ⟨rfl, rfl⟩; rw [D1.out]))
            go_ret
            exact ⟨by rw [HE.out]; rfl, (by repeat (first | (with_reducible first | exact HB.out | apply below_alloc | apply pw_below_drewN | apply below_drew1) | exact HB.out))⟩
          · have d9 : decide (65535 < n) = false := decide_eq_false c9
            have HE := Aside0.mk (checkP_ok (show okP a b c d n from ⟨h1, .inr h2, by omega, by omega⟩))
            clear hc hnb h2 h1 c8 c9
            go_wp2_with (first | (go_at_call 68; (with_reducible refine (endr_c c d _).mono ?_); rintro e w_q ⟨rfl, rfl⟩; rw [D2.out]) | (go_at_call 68; (with_reducible refine (endr_c a b _).mono ?_); rintro e w_q ⟨rfl, rfl⟩; rw [D1.out]))
            go_ret
            exact ⟨by rw [HE.out]; rfl, (by repeat (first | (with_reducible first | exact HB.out | apply below_alloc | apply pw_below_drewN | apply below_drew1) | exact HB.out))⟩
      · have D1 := Aside0.mk (decide_eq_false h1)
        have HE := Aside0.mk (checkP_no (show ¬ okP a b c d n from fun hh => h1 hh.1))
        clear hc hnb h2 h1
        go_wp2_with (first | (go_at_call 68; (with_reducible refine (endr_c c d _).mono ?_); rintro e w_q ⟨rfl, rfl⟩; rw [D2.out]) | (go_at_call 68; (with_reducible refine (endr_c a b _).mono ?_); rintro e w_q ⟨rfl, rfl⟩; rw [D1.out]))
        go_ret
        exact ⟨by rw [HE.out]; rfl, (by repeat (first | (with_reducible first | exact HB.out | apply below_alloc | apply pw_below_drewN | apply below_drew1) | exact HB.out))⟩
    · have D2 := Aside0.mk (decide_eq_false h2)
      have HE := Aside0.mk (checkP_no (show ¬ okP a b c d n from fun hh => hh.2.1.elim hnb h2))
      clear hc hnb h2
      go_wp2_with (first | (go_at_call 68; (with_reducible refine (endr_c c d _).mono ?_); rintro e w_q ⟨rfl, rfl⟩; rw [D2.out]))
      go_ret
      exact ⟨by rw [HE.out]; rfl, (by repeat (first | (with_reducible first | exact HB.out | apply below_alloc | apply pw_below_drewN | apply below_drew1) | exact HB.out))⟩

end Go.Proofs.Ytkgjmajabgpadaa
