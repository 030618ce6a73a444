import Derived.Test.YtkgjmajabgpadaaC1
import Derived.LoopN
namespace Go.Proofs.Ytkgjmajabgpadaa
set_option linter.unusedVariables false
set_option linter.unusedSimpArgs false
open Go.RowKit Go.Proofs.YtkgjmajabgpadaaW.PrintWords Go.Proofs.YtkgjmajabgpadaaW.PrintLast Go.Proofs.YtkgjmajabgpadaaW.PrintMore
set_option maxHeartbeats 8000000 in
set_option maxRecDepth 100000 in
theorem ntake_c (n : Int) (w : World) : Calls Try.prog 69 #[.pointer none, .int .i64 n] w fun e w' => e = .returned (.slice none 0 0) ∧ w = w' := by
  go_enter Try.func69, Try.ntmps69
  go_wp2
  go_ret
  exact ⟨rfl, rfl⟩
theorem nnum_c (n : Int) (w : World) : Calls Try.prog 42 #[.pointer none, .int .i64 n] w fun e w' => e = .returned (.int .i64 0) ∧ w = w' := by
  go_enter Try.func42, Try.ntmps42
  go_wp2_with (go_at_call 69; (with_reducible refine (ntake_c n _).mono ?_); rintro e w_q ⟨rfl, rfl⟩; skip)
  refine wp_loop_rounds 1 ?_
  rw [rounds_succ]
  go_wp2
  go_ret
  exact ⟨rfl, rfl⟩
theorem nleft_c (w : World) : Calls Try.prog 46 #[.pointer none] w fun e w' => e = .returned (.int .i64 0) ∧ w = w' := by
  go_enter Try.func46, Try.ntmps46
  go_wp2
  go_ret
  exact ⟨rfl, rfl⟩
theorem nerr_c (w : World) : Calls Try.prog 48 #[.pointer none] w fun e w' => e = .returned (.int .i64 0) ∧ w = w' := by
  go_enter Try.func48, Try.ntmps48
  go_wp2
  go_ret
  exact ⟨rfl, rfl⟩
theorem nend_c (w : World) : Calls Try.prog 50 #[.pointer none] w fun e w' => e = .returned (.int .i64 0) ∧ w = w' := by
  go_enter Try.func50, Try.ntmps50
  go_wp2_with (first | (go_at_call 48; (with_reducible refine (nerr_c _).mono ?_); rintro e w_q ⟨rfl, rfl⟩; skip) | (go_at_call 46; (with_reducible refine (nleft_c _).mono ?_); rintro e w_q ⟨rfl, rfl⟩; skip))
  go_ret
  exact ⟨rfl, rfl⟩
theorem ntext_c (w : World) : Calls Try.prog 44 #[.pointer none] w fun e w' => ∃ A c, e = .returned (.slice A 0 c) ∧ Below w.heap.size w w' := by
  have HB := Aside0.mk (Below.refl w.heap.size w)
  go_enter Try.func44, Try.ntmps44
  go_wp2_with (first | (go_at_call 42; (with_reducible refine (nnum_c 2 _).mono ?_); rintro e w_q ⟨rfl, rfl⟩; skip) | (go_at_call 69; (with_reducible refine (ntake_c 0 _).mono ?_); rintro e w_q ⟨rfl, rfl⟩; skip) | (go_at_call 64; (with_reducible refine (clone_v (.slice none 0 0) [] _ ?s0 ?s1).mono ?_); (case s0 => exact BV.nil _); (case s1 => decide); rintro e w_c ⟨v_c, rfl, ho, hb⟩; obtain ⟨A_c, c_c, e_c, _, _⟩ := ho.reads; subst e_c; have n_ := Aside0.mk (below_step (by repeat (first | (with_reducible first | exact HB.out | apply below_alloc | apply pw_below_drewN | apply below_drew1) | exact HB.out)) hb); clear HB; have HB := n_; clear n_ ho hb; skip))
  go_ret
  exact ⟨_, _, rfl, HB.out⟩

end Go.Proofs.Ytkgjmajabgpadaa
