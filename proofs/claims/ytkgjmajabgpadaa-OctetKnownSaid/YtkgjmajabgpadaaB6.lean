import Derived.Test.YtkgjmajabgpadaaB5
namespace Go.Proofs.Ytkgjmajabgpadaa
set_option linter.unusedVariables false
set_option linter.unusedSimpArgs false
open Go.RowKit Go.Proofs.YtkgjmajabgpadaaW.PrintWords Go.Proofs.YtkgjmajabgpadaaW.PrintLast Go.Proofs.YtkgjmajabgpadaaW.PrintMore
/-- What Seal answers. -/
def sealS (kind : Int) (body : List Int) : List Int × Int :=
  if kind < 0 ∨ 255 < kind then ([], 2) else if 509 < body.length then ([], 5) else (kind :: body ++ dig 2 (sumS (kind :: body) : Nat), 0)
theorem sealS_arg (kind : Int) (body : List Int) (h : kind < 0 ∨ 255 < kind) : sealS kind body = ([], 2) := by unfold sealS; rw [if_pos h]
theorem sealS_limit (kind : Int) (body : List Int) (h : ¬ (kind < 0 ∨ 255 < kind)) (h1 : 509 < body.length) : sealS kind body = ([], 5) := by unfold sealS; rw [if_neg h, if_pos h1]
theorem sealS_ok (kind : Int) (body : List Int) (h : ¬ (kind < 0 ∨ 255 < kind)) (h1 : ¬ 509 < body.length) : sealS kind body = (kind :: body ++ dig 2 (sumS (kind :: body) : Nat), 0) := by unfold sealS; rw [if_neg h, if_neg h1]
set_option maxHeartbeats 8000000 in
set_option maxRecDepth 100000 in
theorem oseal_v (a0 : Int) (v1 : Value) (l1 : List Int) (r1 : List Int) (r2 : Int) (w : World) (h1 : BV w v1 l1) (hb1 : bytesP l1) (hlen : l1.length < 140737488355328) (h : sealS a0 l1 = (r1, r2)) :
    Calls Try.prog 24 #[.int .i64 a0, v1] w fun e w' => ∃ v0_ : Value, e = .returned (.tuple #[v0_, .int .i64 r2]) ∧ BR w' w.heap.size v0_ r1 ∧ Below w.heap.size w w' := by
  obtain ⟨A1, c1, rfl, hc1, hr1⟩ := h1
  have H1 := Aside0.mk (hr1.bv hc1 rfl)
  have HR1 := Aside0.mk hr1
  have HBP := Aside0.mk hb1
  have HP := Aside0.mk h
  clear hr1 hb1 h hc1
  have HB := Aside0.mk (Below.refl w.heap.size w)
  by_cases hk : a0 < 0
  · obtain ⟨rfl, rfl⟩ := Prod.mk.inj ((sealS_arg a0 l1 (.inl hk)).symm.trans HP.out)
    go_enter Try.func24, Try.ntmps24
    go_wp2
    go_ret2
    exact ⟨_, rfl, BR.nil _ _, HB.out⟩
  by_cases hk2 : 255 < a0
  · obtain ⟨rfl, rfl⟩ := Prod.mk.inj ((sealS_arg a0 l1 (.inr hk2)).symm.trans HP.out)
    go_enter Try.func24, Try.ntmps24
    go_wp2
    go_ret2
    exact ⟨_, rfl, BR.nil _ _, HB.out⟩
  by_cases hs : 509 < l1.length
  · have z : decide ((512 : Int) < (1 + (l1.length : Int) + 2)) = true := decide_eq_true (by omega)
    obtain ⟨rfl, rfl⟩ := Prod.mk.inj ((sealS_limit a0 l1 (by omega) hs).symm.trans HP.out)
    clear hs
    go_enter Try.func24, Try.ntmps24
    go_wp2
    go_ret2
    exact ⟨_, rfl, BR.nil _ _, HB.out⟩
  · have z : decide ((512 : Int) < (1 + (l1.length : Int) + 2)) = false := decide_eq_false (by omega)
    have HS := Aside0.mk hs
    have HPP := Aside0.mk ((sealS_ok a0 l1 (by omega) hs).symm.trans HP.out)
    have HBQ := Aside0.mk (HBP.out.cons (c := a0) (by omega) (by omega))
    clear hs
    go_enter Try.func24, Try.ntmps24
    go_wp2_with (first | ((with_reducible refine gate_dst (N := 22) rfl ?_); refine lit_u8 (w0 := w) (N := 22) w.heap.size ?hg ?hd [a0] ?hr ?hB ?hS (by simp) ?_; (case hd => rfl); (case hg => rfl); (case hr => first | (go_simp; done) | (go_simp; rfl)); (case hB => exact (by repeat (first | exact HB.out | apply below_alloc | apply pw_below_drewN | apply below_drew1))); (case hS => exact below_size (by repeat (first | exact HB.out | apply below_alloc | apply pw_below_drewN | apply below_drew1))); intro v_a w_a ho hb hg hat; have n_ := Aside0.mk (BC.mv (by repeat (first | exact HR1.out | apply BC.alloc | apply BC.drewN | apply BC.drew)) (below_of_grown_none hg)); clear HR1; have HR1 := n_; clear n_; have n_ := Aside0.mk hb; clear HB; have HB := n_; clear n_; have HO_a := Aside0.mk ho; clear ho hb hg hat; obtain ⟨A_a, c_a, e_a, _, _⟩ := BR.reads HO_a.out; subst e_a) | ((with_reducible refine gate_builtin (b := .append) (xs := #[.tmp 22, .tmp 23]) rfl ?_); at_builtin; refine app_arm (w0 := w) w.heap.size rfl (.tmp 22) (.tmp 23) rfl _ [a0] l1 _ _ _ rfl rfl ?aO ?aR ?aM ?aB ?aS ?aL ?_; (case aO => exact HO_a.out); (case aR => exact HR1.out); (case aM => first | rfl | simp); (case aB => exact (by repeat (first | exact HB.out | apply below_alloc | apply pw_below_drewN | apply below_drew1))); (case aS => exact below_size (by repeat (first | exact HB.out | apply below_alloc | apply pw_below_drewN | apply below_drew1))); (case aL => (have := HS.out; simp only [List.length_cons, List.length_nil]; omega)); intro v_r w_r ho hb hg hat; have n_ := Aside0.mk hb; clear HB; have HB := n_; clear n_; have HO_r := Aside0.mk ho; clear ho hb; skip) | (go_at_call 27; (with_reducible refine (osum_v _ (a0 :: l1) _ ?s0 ?s1).mono ?_); (case s0 => exact HO_r.out.bv); (case s1 => exact HBQ.out); rintro e w_27 ⟨rfl, rfl⟩; skip) | ((with_reducible refine gate_dst (N := 28) rfl ?_); refine lit_i64 (w0 := w) (N := 28) w.heap.size ?hg ?hd [(sumS (a0 :: l1) : Int)] ?hr ?hB ?hS (by simp) ?_; (case hd => rfl); (case hg => rfl); (case hr => first | (go_simp; done) | (go_simp; rfl)); (case hB => exact (by repeat (first | exact HB.out | apply below_alloc | apply pw_below_drewN | apply below_drew1))); (case hS => exact below_size (by repeat (first | exact HB.out | apply below_alloc | apply pw_below_drewN | apply below_drew1))); intro v_s w_s ho hb hg hat; have n_ := Aside0.mk (BR.mv (by repeat (first | exact HO_r.out | apply BR.alloc | apply BR.drewN | apply BR.drew)) (below_of_grown_none hg)); clear HO_r; have HO_r := n_; clear n_; have n_ := Aside0.mk hb; clear HB; have HB := n_; clear n_; have HO_s := Aside0.mk ho; clear ho hb hg hat; obtain ⟨A_s, c_s, e_s, _, _⟩ := IR.reads HO_s.out; subst e_s) | (go_at_call 20; (with_reducible refine (oput_v _ _ (a0 :: l1) 2 [(sumS (a0 :: l1) : Int)] _ _ _ ?s0 ?s1 ?s2 (put_len (a0 :: l1) (sumS (a0 :: l1)) ?s3)).mono ?_); (case s0 => exact HO_r.out.bv); (case s1 => exact HO_s.out.iv); (case s2 => have := HS.out; simp only [List.length_cons, List.length_nil]; omega); (case s3 => have := sumS_lt HBQ.out; omega); rintro e w_20 ⟨vp, rfl, ho, hb⟩; have HO_p := Aside0.mk (ho.lower (below_size (by repeat (first | exact HB.out | apply below_alloc | apply pw_below_drewN | apply below_drew1)))); clear ho; have n_ := Aside0.mk (below_step (by repeat (first | exact HB.out | apply below_alloc | apply pw_below_drewN | apply below_drew1)) hb); clear HB; have HB := n_; clear n_; clear hb; skip))
    obtain ⟨rfl, rfl⟩ := Prod.mk.inj HPP.out
    go_ret2
    exact ⟨_, rfl, HO_p.out, HB.out⟩
set_option maxHeartbeats 8000000 in
set_option maxRecDepth 100000 in
theorem rseal_v (a0 : Int) (v1 : Value) (l1 : List Int) (r1 : List Int) (r2 : Int) (w : World) (h1 : BV w v1 l1) (hb1 : bytesP l1) (hlen : l1.length < 140737488355328) (h : sealS a0 l1 = (r1, r2)) :
    Calls Try.prog 25 #[.int .i64 a0, v1] w fun e w' => ∃ v0_ : Value, e = .returned (.tuple #[v0_, .int .i64 r2]) ∧ BR w' w.heap.size v0_ r1 ∧ Below w.heap.size w w' := by
  obtain ⟨A1, c1, rfl, hc1, hr1⟩ := h1
  have H1 := Aside0.mk (hr1.bv hc1 rfl)
  have HR1 := Aside0.mk hr1
  have HBP := Aside0.mk hb1
  have HP := Aside0.mk h
  clear hr1 hb1 h hc1
  have HB := Aside0.mk (Below.refl w.heap.size w)
  by_cases hk : a0 < 0
  · obtain ⟨rfl, rfl⟩ := Prod.mk.inj ((sealS_arg a0 l1 (.inl hk)).symm.trans HP.out)
    go_enter Try.func25, Try.ntmps25
    go_wp2
    go_ret2
    exact ⟨_, rfl, BR.nil _ _, HB.out⟩
  by_cases hk2 : 255 < a0
  · obtain ⟨rfl, rfl⟩ := Prod.mk.inj ((sealS_arg a0 l1 (.inr hk2)).symm.trans HP.out)
    go_enter Try.func25, Try.ntmps25
    go_wp2
    go_ret2
    exact ⟨_, rfl, BR.nil _ _, HB.out⟩
  by_cases hs : 509 < l1.length
  · have z : decide ((512 : Int) < ((l1.length : Int) + 3)) = true := decide_eq_true (by omega)
    obtain ⟨rfl, rfl⟩ := Prod.mk.inj ((sealS_limit a0 l1 (by omega) hs).symm.trans HP.out)
    clear hs
    go_enter Try.func25, Try.ntmps25
    go_wp2
    go_ret2
    exact ⟨_, rfl, BR.nil _ _, HB.out⟩
  · have z : decide ((512 : Int) < ((l1.length : Int) + 3)) = false := decide_eq_false (by omega)
    have HS := Aside0.mk hs
    have HPP := Aside0.mk ((sealS_ok a0 l1 (by omega) hs).symm.trans HP.out)
    have HBQ := Aside0.mk (HBP.out.cons (c := a0) (by omega) (by omega))
    clear hs
    go_enter Try.func25, Try.ntmps25
    go_wp2_with (first | ((with_reducible refine gate_dst (N := 19) rfl ?_); refine lit_u8 (w0 := w) (N := 19) w.heap.size ?hg ?hd [a0] ?hr ?hB ?hS (by simp) ?_; (case hd => rfl); (case hg => rfl); (case hr => first | (go_simp; done) | (go_simp; rfl)); (case hB => exact (by repeat (first | exact HB.out | apply below_alloc | apply pw_below_drewN | apply below_drew1))); (case hS => exact below_size (by repeat (first | exact HB.out | apply below_alloc | apply pw_below_drewN | apply below_drew1))); intro v_a w_a ho hb hg hat; have n_ := Aside0.mk (BC.mv (by repeat (first | exact HR1.out | apply BC.alloc | apply BC.drewN | apply BC.drew)) (below_of_grown_none hg)); clear HR1; have HR1 := n_; clear n_; have n_ := Aside0.mk hb; clear HB; have HB := n_; clear n_; have HO_a := Aside0.mk ho; clear ho hb hg hat; obtain ⟨A_a, c_a, e_a, _, _⟩ := BR.reads HO_a.out; subst e_a) | ((with_reducible refine gate_builtin (b := .append) (xs := #[.tmp 19, .tmp 20]) rfl ?_); at_builtin; refine app_arm (w0 := w) w.heap.size rfl (.tmp 19) (.tmp 20) rfl _ [a0] l1 _ _ _ rfl rfl ?aO ?aR ?aM ?aB ?aS ?aL ?_; (case aO => exact HO_a.out); (case aR => exact HR1.out); (case aM => first | rfl | simp); (case aB => exact (by repeat (first | exact HB.out | apply below_alloc | apply pw_below_drewN | apply below_drew1))); (case aS => exact below_size (by repeat (first | exact HB.out | apply below_alloc | apply pw_below_drewN | apply below_drew1))); (case aL => (have := HS.out; simp only [List.length_cons, List.length_nil]; omega)); intro v_r w_r ho hb hg hat; have n_ := Aside0.mk hb; clear HB; have HB := n_; clear n_; have HO_r := Aside0.mk ho; clear ho hb; skip) | (go_at_call 28; (with_reducible refine (rsum_v _ (a0 :: l1) _ ?s0 ?s1).mono ?_); (case s0 => exact HO_r.out.bv); (case s1 => exact HBQ.out); rintro e w_28 ⟨rfl, rfl⟩; skip) | ((with_reducible refine gate_dst (N := 25) rfl ?_); refine lit_i64 (w0 := w) (N := 25) w.heap.size ?hg ?hd [(sumS (a0 :: l1) : Int)] ?hr ?hB ?hS (by simp) ?_; (case hd => rfl); (case hg => rfl); (case hr => first | (go_simp; done) | (go_simp; rfl)); (case hB => exact (by repeat (first | exact HB.out | apply below_alloc | apply pw_below_drewN | apply below_drew1))); (case hS => exact below_size (by repeat (first | exact HB.out | apply below_alloc | apply pw_below_drewN | apply below_drew1))); intro v_s w_s ho hb hg hat; have n_ := Aside0.mk (BR.mv (by repeat (first | exact HO_r.out | apply BR.alloc | apply BR.drewN | apply BR.drew)) (below_of_grown_none hg)); clear HO_r; have HO_r := n_; clear n_; have n_ := Aside0.mk hb; clear HB; have HB := n_; clear n_; have HO_s := Aside0.mk ho; clear ho hb hg hat; obtain ⟨A_s, c_s, e_s, _, _⟩ := IR.reads HO_s.out; subst e_s) | (go_at_call 21; (with_reducible refine (rput_v _ _ (a0 :: l1) 2 [(sumS (a0 :: l1) : Int)] _ _ _ ?s0 ?s1 ?s2 (put_len (a0 :: l1) (sumS (a0 :: l1)) ?s3)).mono ?_); (case s0 => exact HO_r.out.bv); (case s1 => exact HO_s.out.iv); (case s2 => have := HS.out; simp only [List.length_cons, List.length_nil]; omega); (case s3 => have := sumS_lt HBQ.out; omega); rintro e w_21 ⟨vp, rfl, ho, hb⟩; have HO_p := Aside0.mk (ho.lower (below_size (by repeat (first | exact HB.out | apply below_alloc | apply pw_below_drewN | apply below_drew1)))); clear ho; have n_ := Aside0.mk (below_step (by repeat (first | exact HB.out | apply below_alloc | apply pw_below_drewN | apply below_drew1)) hb); clear HB; have HB := n_; clear n_; clear hb; skip))
    obtain ⟨rfl, rfl⟩ := Prod.mk.inj HPP.out
    go_ret2
    exact ⟨_, rfl, HO_p.out, HB.out⟩

end Go.Proofs.Ytkgjmajabgpadaa
