import Derived.Test.YtkgjmajabgpadaaA
namespace Go.Proofs.Ytkgjmajabgpadaa
set_option linter.unusedVariables false
set_option linter.unusedSimpArgs false
open Go.RowKit Go.Proofs.YtkgjmajabgpadaaW.PrintWords Go.Proofs.YtkgjmajabgpadaaW.PrintLast Go.Proofs.YtkgjmajabgpadaaW.PrintMore
set_option maxHeartbeats 8000000 in
set_option maxRecDepth 100000 in
theorem copyBytes_calls (A0 : Option Addr) (c0 : Nat) (l0 : List Int) (w : World) (hr0 : BC w A0 l0) (hlen : l0.length < 140737488355328) :
    Calls Try.prog 19 #[.slice A0 l0.length c0] w fun e w' => ∃ v0_ : Value, e = .returned (v0_) ∧ BR w' w.heap.size v0_ l0 ∧ Below w.heap.size w w' := by
  have HR0 := Aside0.mk hr0
  have HL := Aside0.mk hlen
  clear hr0 hlen
  have HB := Aside0.mk (Below.refl w.heap.size w)
  go_enter Try.func19, Try.ntmps19
  go_wp2_with (first | ((with_reducible refine gate_builtin (b := .append) (xs := #[.tmp 4, .tmp 5]) rfl ?_); at_builtin; refine app_arm (w0 := w) w.heap.size rfl (.tmp 4) (.tmp 5) rfl (.slice none 0 0) [] l0 _ _ _ rfl rfl ?aO ?aR ?aM ?aB ?aS ?aL ?_; (case aO => exact (BR.nil _ _)); (case aR => exact HR0.out); (case aM => first | rfl | simp); (case aB => exact (by repeat (first | exact HB.out | apply below_alloc | apply pw_below_drewN | apply below_drew1))); (case aS => exact below_size (by repeat (first | exact HB.out | apply below_alloc | apply pw_below_drewN | apply below_drew1))); (case aL => (have := HL.out; simp; omega)); intro v_r w_r ho hb hg hat; have n_ := Aside0.mk hb; clear HB; have HB := n_; clear n_; have HO_r := Aside0.mk ho; clear ho hb; skip))
  go_ret
  exact ⟨_, rfl, HO_r.out, HB.out⟩
set_option maxHeartbeats 8000000 in
set_option maxRecDepth 100000 in
theorem clone_calls (A0 : Option Addr) (c0 : Nat) (l0 : List Int) (w : World) (hr0 : BC w A0 l0) (hlen : l0.length < 140737488355328) :
    Calls Try.prog 64 #[.slice A0 l0.length c0] w fun e w' => ∃ v0_ : Value, e = .returned (v0_) ∧ BR w' w.heap.size v0_ l0 ∧ Below w.heap.size w w' := by
  rcases A0 with _ | ad
  · obtain rfl := hr0.none_nil
    have hsl := fun w => Lib.run_eql_slice_nil (P := Try.prog) w 22 5 none 0 c0 0 0 Try.underlying22
    go_enter Try.func64, Try.ntmps64
    go_wp2
    go_ret
    exact ⟨_, rfl, BR.nil _ _, Below.refl _ _⟩
  · have hsl := fun w => Lib.run_eql_slice_nil (P := Try.prog) w 22 5 (some ad) l0.length c0 0 0 Try.underlying22
    have HR0 := Aside0.mk hr0
    have HL := Aside0.mk hlen
    clear hr0 hlen
    have HB := Aside0.mk (Below.refl w.heap.size w)
    go_enter Try.func64, Try.ntmps64
    go_wp2_with (first | ((with_reducible refine gate_dst (N := 5) rfl ?_); refine lit_u8 (w0 := w) (N := 5) w.heap.size ?hg ?hd [] ?hr ?hB ?hS (by simp) ?_; (case hd => rfl); (case hg => rfl); (case hr => first | (go_simp; done) | (go_simp; rfl)); (case hB => exact (by repeat (first | exact HB.out | apply below_alloc | apply pw_below_drewN | apply below_drew1))); (case hS => exact below_size (by repeat (first | exact HB.out | apply below_alloc | apply pw_below_drewN | apply below_drew1))); intro v_a w_a ho hb hg hat; have n_ := Aside0.mk (BC.mv (by repeat (first | exact HR0.out | apply BC.alloc | apply BC.drewN | apply BC.drew)) (below_of_grown_none hg)); clear HR0; have HR0 := n_; clear n_; have n_ := Aside0.mk hb; clear HB; have HB := n_; clear n_; have HO_a := Aside0.mk ho; clear ho hb hg hat; obtain ⟨A_a, c_a, e_a, _, _⟩ := BR.reads HO_a.out; subst e_a) | ((with_reducible refine gate_builtin (b := .append) (xs := #[.tmp 5, .tmp 6]) rfl ?_); at_builtin; refine app_arm (w0 := w) w.heap.size rfl (.tmp 5) (.tmp 6) rfl _ [] l0 _ _ _ rfl rfl ?aO ?aR ?aM ?aB ?aS ?aL ?_; (case aO => exact HO_a.out); (case aR => exact HR0.out); (case aM => first | rfl | simp); (case aB => exact (by repeat (first | exact HB.out | apply below_alloc | apply pw_below_drewN | apply below_drew1))); (case aS => exact below_size (by repeat (first | exact HB.out | apply below_alloc | apply pw_below_drewN | apply below_drew1))); (case aL => (have := HL.out; simp; omega)); intro v_r w_r ho hb hg hat; have n_ := Aside0.mk hb; clear HB; have HB := n_; clear n_; have HO_r := Aside0.mk ho; clear ho hb; skip))
    go_ret
    exact ⟨_, rfl, HO_r.out, HB.out⟩
set_option maxHeartbeats 8000000 in
set_option maxRecDepth 100000 in
theorem sized_calls (a0 : Int) (w : World) :
    Calls Try.prog 63 #[.int .i64 a0] w fun e w' => e = .returned (.bool (decide (a0 = 1 ∨ a0 = 2 ∨ a0 = 4))) ∧ w = w' := by
  by_cases c1 : a0 = 1
  · subst c1
    go_enter Try.func63, Try.ntmps63
    go_wp2
    go_ret
    exact ⟨rfl, rfl⟩
  · by_cases c2 : a0 = 2
    · subst c2
      go_enter Try.func63, Try.ntmps63
      go_wp2
      go_ret
      exact ⟨rfl, rfl⟩
    · by_cases c3 : a0 = 4
      · subst c3
        go_enter Try.func63, Try.ntmps63
        go_wp2
        go_ret
        exact ⟨rfl, rfl⟩
      · have h1 : (a0 == 1) = false := beq_eq_false_iff_ne.mpr c1
        have h2 : (a0 == 2) = false := beq_eq_false_iff_ne.mpr c2
        have h3 : (a0 == 4) = false := beq_eq_false_iff_ne.mpr c3
        go_enter Try.func63, Try.ntmps63
        go_wp2
        go_ret
        exact ⟨by simp [c1, c2, c3], rfl⟩
theorem copyBytes_v (v : Value) (l : List Int) (w : World) (h : BV w v l) (hlen : l.length < 140737488355328) :
    Calls Try.prog 19 #[v] w fun e w' => ∃ v0_ : Value, e = .returned (v0_) ∧ BR w' w.heap.size v0_ l ∧ Below w.heap.size w w' := by
  obtain ⟨A, c, rfl, hc, hb⟩ := h
  exact copyBytes_calls A c l w hb hlen
theorem clone_v (v : Value) (l : List Int) (w : World) (h : BV w v l) (hlen : l.length < 140737488355328) :
    Calls Try.prog 64 #[v] w fun e w' => ∃ v0_ : Value, e = .returned (v0_) ∧ BR w' w.heap.size v0_ l ∧ Below w.heap.size w w' := by
  obtain ⟨A, c, rfl, hc, hb⟩ := h
  exact clone_calls A c l w hb hlen
set_option maxHeartbeats 8000000 in
set_option maxRecDepth 100000 in
theorem eqb_v (v0 v1 : Value) (l0 l1 : List Int) (w : World) (h0 : BV w v0 l0) (h1 : BV w v1 l1) (he : l0 = l1) :
    Calls Try.prog 26 #[v0, v1] w fun e w' => e = .returned (.bool true) ∧ w = w' := by
  subst he
  obtain ⟨A0, c0, rfl, hc0, h0⟩ := h0
  obtain ⟨A1, c1, rfl, hc1, h1⟩ := h1
  have k0 := fun c => Kd.C_string (P := Try.prog) (src := 22) (dst := 9) (c := c) Try.underlying22 Try.underlying5 Try.underlying9 h0
  have k1 := fun c => Kd.C_string (P := Try.prog) (src := 22) (dst := 9) (c := c) Try.underlying22 Try.underlying5 Try.underlying9 h1
  clear h0 h1
  go_enter Try.func26, Try.ntmps26
  go_wp2
  go_ret
  exact ⟨by simp, rfl⟩

end Go.Proofs.Ytkgjmajabgpadaa
