import Derived.Test.YtkgjmajabgpadaaB2
import Derived.Test.YtkgjmajabgpadaaB3
import Derived.Test.YtkgjmajabgpadaaB4
namespace Go.Proofs.Ytkgjmajabgpadaa
set_option linter.unusedVariables false
set_option linter.unusedSimpArgs false
open Go.RowKit Go.Proofs.YtkgjmajabgpadaaW.PrintWords Go.Proofs.YtkgjmajabgpadaaW.PrintLast Go.Proofs.YtkgjmajabgpadaaW.PrintMore
theorem oput_v (v0 v2 : Value) (l0 : List Int) (a1 : Int) (l2 : List Int) (r1 : List Int) (r2 : Int) (w : World) (h0 : BV w v0 l0) (h2 : IV w v2 l2) (hlen : l0.length + 4 * l2.length < 140737488355328) (h : putS l0 a1 l2 = (r1, r2)) :
    Calls Try.prog 20 #[v0, .int .i64 a1, v2] w fun e w' => ∃ v0_ : Value, e = .returned (.tuple #[v0_, .int .i64 r2]) ∧ BR w' w.heap.size v0_ r1 ∧ Below w.heap.size w w' := by
  obtain ⟨A0, c0, rfl, hc0, h0⟩ := h0
  obtain ⟨A2, c2, rfl, hc2, h2⟩ := h2
  exact oput_calls A0 c0 l0 a1 A2 c2 l2 r1 r2 w h0 h2 hlen h
theorem rput_v (v0 v2 : Value) (l0 : List Int) (a1 : Int) (l2 : List Int) (r1 : List Int) (r2 : Int) (w : World) (h0 : BV w v0 l0) (h2 : IV w v2 l2) (hlen : l0.length + 4 * l2.length < 140737488355328) (h : putS l0 a1 l2 = (r1, r2)) :
    Calls Try.prog 21 #[v0, .int .i64 a1, v2] w fun e w' => ∃ v0_ : Value, e = .returned (.tuple #[v0_, .int .i64 r2]) ∧ BR w' w.heap.size v0_ r1 ∧ Below w.heap.size w w' := by
  obtain ⟨A0, c0, rfl, hc0, h0⟩ := h0
  obtain ⟨A2, c2, rfl, hc2, h2⟩ := h2
  exact rput_calls A0 c0 l0 a1 A2 c2 l2 r1 r2 w h0 h2 hlen h
theorem osum_v (v0 : Value) (l0 : List Int) (w : World) (h0 : BV w v0 l0) (hb0 : bytesP l0) :
    Calls Try.prog 27 #[v0] w fun e w' => e = .returned (.int .i64 (sumS l0 : Nat)) ∧ w = w' := by
  obtain ⟨A0, c0, rfl, hc0, h0⟩ := h0
  exact osum_calls A0 c0 l0 w h0 hb0
theorem rsum_v (v0 : Value) (l0 : List Int) (w : World) (h0 : BV w v0 l0) (hb0 : bytesP l0) :
    Calls Try.prog 28 #[v0] w fun e w' => e = .returned (.int .i64 (sumS l0 : Nat)) ∧ w = w' := by
  obtain ⟨A0, c0, rfl, hc0, h0⟩ := h0
  exact rsum_calls A0 c0 l0 w h0 hb0
/-- What Text answers. -/
def textS (b s : List Int) : List Int × Int := if s.length ≤ 65535 then (b ++ dig 2 s.length ++ s, 0) else ([], 5)
theorem put_len (b : List Int) (n : Nat) (h : n ≤ 65535) : putS b 2 [(n : Int)] = (b ++ dig 2 n, 0) := by
  have := putS_good b 2 2 rfl [(n : Int)] (by omega) (by intro x hx; simp only [List.mem_singleton] at hx; subst hx; exact ⟨by omega, by show (n : Int) < 65536; omega⟩)
  simpa using this
set_option maxHeartbeats 8000000 in
set_option maxRecDepth 100000 in
theorem otext_v (v0 v1 : Value) (l0 l1 : List Int) (r1 : List Int) (r2 : Int) (w : World) (h0 : BV w v0 l0) (h1 : BV w v1 l1) (hlen : l0.length < 140737488000000) (h : textS l0 l1 = (r1, r2)) :
    Calls Try.prog 22 #[v0, v1] w fun e w' => ∃ v0_ : Value, e = .returned (.tuple #[v0_, .int .i64 r2]) ∧ BR w' w.heap.size v0_ r1 ∧ Below w.heap.size w w' := by
  obtain ⟨A1, c1, rfl, hc1, hr1⟩ := h1
  have hm1 := hr1.max
  have H0 := Aside0.mk h0
  have H1 := Aside0.mk (hr1.bv hc1 rfl)
  have HR1 := Aside0.mk hr1
  have HL := Aside0.mk hlen
  have HP := Aside0.mk h
  clear hr1 hlen h h0 hc1
  have HB := Aside0.mk (Below.refl w.heap.size w)
  by_cases hs : l1.length ≤ 65535
  · have HS := Aside0.mk hs
    have z : decide ((65535 : Int) < (l1.length : Int)) = false := decide_eq_false (by omega)
    clear hs
    go_enter Try.func22, Try.ntmps22
    go_wp2_with (first | ((with_reducible refine gate_dst (N := 15) rfl ?_); refine lit_i64 (w0 := w) (N := 15) w.heap.size ?hg ?hd [(l1.length : Int)] ?hr ?hB ?hS (by simp) ?_; (case hd => rfl); (case hg => rfl); (case hr => first | (go_simp; done) | (go_simp; rfl)); (case hB => exact (by repeat (first | exact HB.out | apply below_alloc | apply pw_below_drewN | apply below_drew1))); (case hS => exact below_size (by repeat (first | exact HB.out | apply below_alloc | apply pw_below_drewN | apply below_drew1))); intro v_a w_a ho hb hg hat; have n_ := Aside0.mk (BV.mv (by repeat (first | exact H0.out | apply BV.alloc | apply BV.drewN | apply BV.drew)) (below_of_grown_none hg)); clear H0; have H0 := n_; clear n_; have n_ := Aside0.mk (BC.mv (by repeat (first | exact HR1.out | apply BC.alloc | apply BC.drewN | apply BC.drew)) (below_of_grown_none hg)); clear HR1; have HR1 := n_; clear n_; have n_ := Aside0.mk hb; clear HB; have HB := n_; clear n_; have HO_a := Aside0.mk ho; clear ho hb hg hat; obtain ⟨A_a, c_a, e_a, _, _⟩ := IR.reads HO_a.out; subst e_a) | (go_at_call 20; (with_reducible refine (oput_v _ _ l0 2 [(l1.length : Int)] _ _ _ ?s0 ?s1 ?s2 (put_len l0 l1.length HS.out)).mono ?_); (case s0 => exact H0.out); (case s1 => exact HO_a.out.iv); (case s2 => have := HL.out; simp only [List.length_cons, List.length_nil]; omega); rintro e w_20 ⟨vp, rfl, ho, hb⟩; have HO_p := Aside0.mk (ho.lower (below_size (by repeat (first | exact HB.out | apply below_alloc | apply pw_below_drewN | apply below_drew1)))); clear ho; have n_ := Aside0.mk (BC.mv (by repeat (first | exact HR1.out | apply BC.alloc | apply BC.drewN | apply BC.drew)) hb); clear HR1; have HR1 := n_; clear n_; have n_ := Aside0.mk (below_step (by repeat (first | exact HB.out | apply below_alloc | apply pw_below_drewN | apply below_drew1)) hb); clear HB; have HB := n_; clear n_; clear hb; skip) | ((with_reducible refine gate_builtin (b := .append) (xs := #[.tmp 19, .tmp 20]) rfl ?_); at_builtin; refine app_arm (w0 := w) w.heap.size rfl (.tmp 19) (.tmp 20) rfl _ (l0 ++ dig 2 l1.length) l1 _ _ _ rfl rfl ?aO ?aR ?aM ?aB ?aS ?aL ?_; (case aO => exact HO_p.out); (case aR => exact HR1.out); (case aM => first | rfl | simp); (case aB => exact (by repeat (first | exact HB.out | apply below_alloc | apply pw_below_drewN | apply below_drew1))); (case aS => exact below_size (by repeat (first | exact HB.out | apply below_alloc | apply pw_below_drewN | apply below_drew1))); (case aL => (have := HL.out; have := HS.out; simp only [List.length_append, dig_length]; omega)); intro v_r w_r ho hb hg hat; have n_ := Aside0.mk hb; clear HB; have HB := n_; clear n_; have HO_r := Aside0.mk ho; clear ho hb; skip))
    obtain ⟨rfl, rfl⟩ := Prod.mk.inj ((show textS l0 l1 = (l0 ++ dig 2 l1.length ++ l1, 0) from by unfold textS; rw [if_pos HS.out]).symm.trans HP.out)
    go_ret2
    exact ⟨_, rfl, HO_r.out, HB.out⟩
  · have z : decide ((65535 : Int) < (l1.length : Int)) = true := decide_eq_true (by omega)
    obtain ⟨rfl, rfl⟩ := Prod.mk.inj ((show textS l0 l1 = ([], 5) from by unfold textS; rw [if_neg hs]).symm.trans HP.out)
    clear hs
    go_enter Try.func22, Try.ntmps22
    go_wp2
    go_ret2
    exact ⟨_, rfl, BR.nil _ _, HB.out⟩
set_option maxHeartbeats 8000000 in
set_option maxRecDepth 100000 in
theorem rtext_v (v0 v1 : Value) (l0 l1 : List Int) (r1 : List Int) (r2 : Int) (w : World) (h0 : BV w v0 l0) (h1 : BV w v1 l1) (hlen : l0.length < 140737488000000) (h : textS l0 l1 = (r1, r2)) :
    Calls Try.prog 23 #[v0, v1] w fun e w' => ∃ v0_ : Value, e = .returned (.tuple #[v0_, .int .i64 r2]) ∧ BR w' w.heap.size v0_ r1 ∧ Below w.heap.size w w' := by
  obtain ⟨A1, c1, rfl, hc1, hr1⟩ := h1
  have hm1 := hr1.max
  have H0 := Aside0.mk h0
  have H1 := Aside0.mk (hr1.bv hc1 rfl)
  have HR1 := Aside0.mk hr1
  have HL := Aside0.mk hlen
  have HP := Aside0.mk h
  clear hr1 hlen h h0 hc1
  have HB := Aside0.mk (Below.refl w.heap.size w)
  by_cases hs : l1.length ≤ 65535
  · have HS := Aside0.mk hs
    have z : decide ((65535 : Int) < (l1.length : Int)) = false := decide_eq_false (by omega)
    clear hs
    go_enter Try.func23, Try.ntmps23
    go_wp2_with (first | ((with_reducible refine gate_dst (N := 15) rfl ?_); refine lit_i64 (w0 := w) (N := 15) w.heap.size ?hg ?hd [(l1.length : Int)] ?hr ?hB ?hS (by simp) ?_; (case hd => rfl); (case hg => rfl); (case hr => first | (go_simp; done) | (go_simp; rfl)); (case hB => exact (by repeat (first | exact HB.out | apply below_alloc | apply pw_below_drewN | apply below_drew1))); (case hS => exact below_size (by repeat (first | exact HB.out | apply below_alloc | apply pw_below_drewN | apply below_drew1))); intro v_a w_a ho hb hg hat; have n_ := Aside0.mk (BV.mv (by repeat (first | exact H0.out | apply BV.alloc | apply BV.drewN | apply BV.drew)) (below_of_grown_none hg)); clear H0; have H0 := n_; clear n_; have n_ := Aside0.mk (BC.mv (by repeat (first | exact HR1.out | apply BC.alloc | apply BC.drewN | apply BC.drew)) (below_of_grown_none hg)); clear HR1; have HR1 := n_; clear n_; have n_ := Aside0.mk hb; clear HB; have HB := n_; clear n_; have HO_a := Aside0.mk ho; clear ho hb hg hat; obtain ⟨A_a, c_a, e_a, _, _⟩ := IR.reads HO_a.out; subst e_a) | (go_at_call 21; (with_reducible refine (rput_v _ _ l0 2 [(l1.length : Int)] _ _ _ ?s0 ?s1 ?s2 (put_len l0 l1.length HS.out)).mono ?_); (case s0 => exact H0.out); (case s1 => exact HO_a.out.iv); (case s2 => have := HL.out; simp only [List.length_cons, List.length_nil]; omega); rintro e w_21 ⟨vp, rfl, ho, hb⟩; have HO_p := Aside0.mk (ho.lower (below_size (by repeat (first | exact HB.out | apply below_alloc | apply pw_below_drewN | apply below_drew1)))); clear ho; have n_ := Aside0.mk (BC.mv (by repeat (first | exact HR1.out | apply BC.alloc | apply BC.drewN | apply BC.drew)) hb); clear HR1; have HR1 := n_; clear n_; have n_ := Aside0.mk (below_step (by repeat (first | exact HB.out | apply below_alloc | apply pw_below_drewN | apply below_drew1)) hb); clear HB; have HB := n_; clear n_; clear hb; skip) | ((with_reducible refine gate_builtin (b := .append) (xs := #[.tmp 19, .tmp 20]) rfl ?_); at_builtin; refine app_arm (w0 := w) w.heap.size rfl (.tmp 19) (.tmp 20) rfl _ (l0 ++ dig 2 l1.length) l1 _ _ _ rfl rfl ?aO ?aR ?aM ?aB ?aS ?aL ?_; (case aO => exact HO_p.out); (case aR => exact HR1.out); (case aM => first | rfl | simp); (case aB => exact (by repeat (first | exact HB.out | apply below_alloc | apply pw_below_drewN | apply below_drew1))); (case aS => exact below_size (by repeat (first | exact HB.out | apply below_alloc | apply pw_below_drewN | apply below_drew1))); (case aL => (have := HL.out; have := HS.out; simp only [List.length_append, dig_length]; omega)); intro v_r w_r ho hb hg hat; have n_ := Aside0.mk hb; clear HB; have HB := n_; clear n_; have HO_r := Aside0.mk ho; clear ho hb; skip))
    obtain ⟨rfl, rfl⟩ := Prod.mk.inj ((show textS l0 l1 = (l0 ++ dig 2 l1.length ++ l1, 0) from by unfold textS; rw [if_pos HS.out]).symm.trans HP.out)
    go_ret2
    exact ⟨_, rfl, HO_r.out, HB.out⟩
  · have z : decide ((65535 : Int) < (l1.length : Int)) = true := decide_eq_true (by omega)
    obtain ⟨rfl, rfl⟩ := Prod.mk.inj ((show textS l0 l1 = ([], 5) from by unfold textS; rw [if_neg hs]).symm.trans HP.out)
    clear hs
    go_enter Try.func23, Try.ntmps23
    go_wp2
    go_ret2
    exact ⟨_, rfl, BR.nil _ _, HB.out⟩

end Go.Proofs.Ytkgjmajabgpadaa
