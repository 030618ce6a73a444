import Derived.Test.YtkgjmajabgpadaaR5
namespace Go.Proofs.Ytkgjmajabgpadaa
set_option linter.unusedVariables false
set_option linter.unusedSimpArgs false
open Go.RowKit Go.Proofs.YtkgjmajabgpadaaW.PrintWords Go.Proofs.YtkgjmajabgpadaaW.PrintLast Go.Proofs.YtkgjmajabgpadaaW.PrintMore
set_option maxHeartbeats 8000000 in
set_option maxRecDepth 100000 in
theorem probeFinds_walk {w : World} (a b c d n : Int) (wa : (Lit.int .i64 a).wf = true) (wb : (Lit.int .i64 b).wf = true) (wc : (Lit.int .i64 c).wf = true) (wd : (Lit.int .i64 d).wf = true) (wn : (Lit.int .i64 n).wf = true) (tt : Int) (wt : (Lit.int .i64 tt).wf = true) (q : Int) (wq : (Lit.int .i64 q).wf = true) :
    Calls Try.prog 7 #[.agg #[.int .i64 a, .int .i64 b, .int .i64 c, .int .i64 d, .int .i64 n], .int .i64 tt, .int .i64 q] w fun e w' => e = .returned (.bool true) ∧ Below w.heap.size w w' := by
  have HB := Aside0.mk (Below.refl w.heap.size w)
  clear wa wb wc wd wn wt wq
  obtain ⟨⟨x0, x1, x2, x3, x4⟩, e0, hs⟩ : ∃ (p : Prb) (e0 : Int), foundP a b c d n tt q = (p, e0) := ⟨_, _, rfl⟩
  have HS := Aside0.mk hs
  have HV : Aside0 (prbV ((x0, x1, x2, x3, x4) : Prb) = #[.int .i64 x0, .int .i64 x1, .int .i64 x2, .int .i64 x3, .int .i64 x4]) := ⟨rfl⟩
  clear hs
  have keq := fun w : World => eq_probe_same w x0 x1 x2 x3 x4
  go_enter Try.func7, Try.ntmps7
  go_wp2_with (first | (go_at_call 38; (with_reducible refine (pfound_c a b c d n tt q _ ((x0, x1, x2, x3, x4) : Prb) e0 HS.out).mono ?_); rintro e w_1 ⟨rfl, hb⟩; rw [HV.out]; have HD := Aside0.mk (Bk.mv (by repeat (first | (with_reducible first | exact Bk.alloc0 _ _ _ | apply Bk.drewN | apply Bk.drew) | exact Bk.alloc0 _ _ _)) hb);have hd0 : ∀ o : Obj, World.cell? (World.alloc _ o) ⟨w.heap.size, 0, none⟩ = some (Value.int .i64 a) := fun o => (HD.out.alloc o).cell 0; have hd1 : ∀ o : Obj, World.cell? (World.alloc _ o) ⟨w.heap.size, 1, none⟩ = some (Value.int .i64 b) := fun o => (HD.out.alloc o).cell 1; have hd2 : ∀ o : Obj, World.cell? (World.alloc _ o) ⟨w.heap.size, 2, none⟩ = some (Value.int .i64 c) := fun o => (HD.out.alloc o).cell 2; have hd3 : ∀ o : Obj, World.cell? (World.alloc _ o) ⟨w.heap.size, 3, none⟩ = some (Value.int .i64 d) := fun o => (HD.out.alloc o).cell 3; have hd4 : ∀ o : Obj, World.cell? (World.alloc _ o) ⟨w.heap.size, 4, none⟩ = some (Value.int .i64 n) := fun o => (HD.out.alloc o).cell 4; have n_ := Aside0.mk (below_step (by repeat (first | (with_reducible first | exact HB.out | apply below_alloc | apply pw_below_drewN | apply below_drew1) | exact HB.out)) hb); clear HB; have HB := n_; clear n_; clear hb; skip) | (go_at_call 39; (with_reducible refine (pfoundr_c a b c d n tt q _ ((x0, x1, x2, x3, x4) : Prb) e0 HS.out).mono ?_); rintro e w_m ⟨rfl, hb⟩; rw [HV.out]; have HD2 := Aside0.mk (Bk.mv (by repeat (first | (with_reducible first | exact Bk.alloc0 _ _ _ | apply Bk.drewN | apply Bk.drew) | exact Bk.alloc0 _ _ _)) hb);have he0 : ∀ o : Obj, World.cell? (World.alloc _ o) ⟨w_1.heap.size, 0, none⟩ = some (Value.int .i64 x0) := fun o => (HD2.out.alloc o).cell 0; have he1 : ∀ o : Obj, World.cell? (World.alloc _ o) ⟨w_1.heap.size, 1, none⟩ = some (Value.int .i64 x1) := fun o => (HD2.out.alloc o).cell 1; have he2 : ∀ o : Obj, World.cell? (World.alloc _ o) ⟨w_1.heap.size, 2, none⟩ = some (Value.int .i64 x2) := fun o => (HD2.out.alloc o).cell 2; have he3 : ∀ o : Obj, World.cell? (World.alloc _ o) ⟨w_1.heap.size, 3, none⟩ = some (Value.int .i64 x3) := fun o => (HD2.out.alloc o).cell 3; have he4 : ∀ o : Obj, World.cell? (World.alloc _ o) ⟨w_1.heap.size, 4, none⟩ = some (Value.int .i64 x4) := fun o => (HD2.out.alloc o).cell 4; have n_ := Aside0.mk (below_step (by repeat (first | (with_reducible first | exact HB.out | apply below_alloc | apply pw_below_drewN | apply below_drew1) | exact HB.out)) hb); clear HB; have HB := n_; clear n_; clear hb; skip) | (go_at_call 37; (with_reducible refine (works4_c _).mono ?_); rintro e w_m ⟨rfl, hb⟩; have n_ := Aside0.mk (below_step (by repeat (first | (with_reducible first | exact HB.out | apply below_alloc | apply pw_below_drewN | apply below_drew1) | exact HB.out)) hb); clear HB; have HB := n_; clear n_; clear hb; skip))
  go_ret
  exact ⟨rfl, (by repeat (first | (with_reducible first | exact HB.out | apply below_alloc | apply pw_below_drewN | apply below_drew1) | exact HB.out))⟩

end Go.Proofs.Ytkgjmajabgpadaa
