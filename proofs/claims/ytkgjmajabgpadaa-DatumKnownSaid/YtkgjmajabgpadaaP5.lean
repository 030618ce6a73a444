import Derived.Test.YtkgjmajabgpadaaP4
namespace Go.Proofs.Ytkgjmajabgpadaa
set_option linter.unusedVariables false
set_option linter.unusedSimpArgs false
open Go.RowKit Go.Proofs.YtkgjmajabgpadaaW.PrintWords Go.Proofs.YtkgjmajabgpadaaW.PrintLast Go.Proofs.YtkgjmajabgpadaaW.PrintMore
def r11_3.T : Bool × List (List Nat × List Nat) := (true, [([], []), ([0], [0]), ([], []), ([2, 1], [2]), ([1, 3], [1, 3]), ([4, 3], [4]), ([5], [5]), ([5], [5]), ([6, 7, 5, 5], [5, 6, 7]), ([5, 8], [5, 8]), ([9, 8], [9]), ([10], [10]), ([10], [10]), ([11, 12, 10], [10, 11, 12]), ([10, 13], [10, 13]), ([14, 10], [14]), ([15, 15], [15]), ([15, 16], [15, 16]), ([17, 16, 0, 1, 2, 3, 4, 5, 6, 7, 8, 9, 10, 11, 12, 13, 14, 15, 16, 17], [17])])
def r11_3.B : List Nat := [0, 1, 0, 7, 15, 31, 63, 63, 255, 511, 1023, 2047, 2047, 8191, 16383, 32767, 65535, 131071, 262143]
theorem r11_3.tab : rtab .any (opsOf Try.f11 3) = r11_3.T := by kernel_rfl
theorem r11_3.bits : waitsOk r11_3.T.2 r11_3.B = true := by kernel_rfl
set_option maxHeartbeats 8000000 in
set_option maxRecDepth 100000 in
theorem datumBytes_walk {w : World} (v h i x y z : Int) (wv : (Lit.int .i64 v).wf = true) (wh : (Lit.int .i64 h).wf = true) (wi : (Lit.int .i64 i).wf = true) (wx : (Lit.int .u8 x).wf = true) (wy : (Lit.int .u8 y).wf = true) (wz : (Lit.int .u8 z).wf = true) :
    Calls Try.prog 11 #[.agg #[.int .i64 v, .int .i64 h, .int .i64 i, .int .u8 x, .int .u8 y, .int .u8 z]] w fun e w' => e = .returned (.bool true) ∧ Below w.heap.size w w' := by
  have HB := Aside0.mk (Below.refl w.heap.size w)
  have UX := Aside0.mk (wf_byte wx)
  have UY := Aside0.mk (wf_byte wy)
  have UZ := Aside0.mk (wf_byte wz)
  clear wv wh wi wx wy wz
  go_enter Try.func11, Try.ntmps11
  by_cases hok : okD v h i
  · have HE := Aside0.mk (checkD_ok hok)
    obtain ⟨r, hr⟩ : ∃ r, frameOf 1 (bodyD v h i x y z) = r := ⟨_, rfl⟩
    obtain ⟨e0, he0⟩ : ∃ e0 : Int, e0 = 0 := ⟨_, rfl⟩
    have HS := Aside0.mk (show bytesD v h i x y z = (r, 0) by rw [bytesD_ok hok, hr])
    clear hok hr he0
    go_wp2_with (first | (go_at_call 52; (with_reducible refine (dbytes_c v h i x y z _ UX.out UY.out UZ.out r 0 HS.out).mono ?_); rintro e w_a ⟨v_a, rfl, ho, hb⟩; have HO_a := Aside0.mk (ho.lower (below_size (by repeat (first | (with_reducible first | exact HB.out | apply below_alloc | apply pw_below_drewN | apply below_drew1) | exact HB.out)))); have HD := Aside0.mk (Bk.mv (by repeat (first | (with_reducible first | exact Bk.alloc0 _ _ _ | apply Bk.drewN | apply Bk.drew) | exact Bk.alloc0 _ _ _)) hb); have n_ := Aside0.mk (below_step (by repeat (first | (with_reducible first | exact HB.out | apply below_alloc | apply pw_below_drewN | apply below_drew1) | exact HB.out)) hb); clear HB; have HB := n_; clear n_; clear hb ho;  (try clear hc0 hc1 hc2 hc3 hc4 hc5); have hc0 : World.cell? _ ⟨w.heap.size, 0, none⟩ = some (Value.int .i64 v) := HD.out.cell 0; have hc1 : World.cell? _ ⟨w.heap.size, 1, none⟩ = some (Value.int .i64 h) := HD.out.cell 1; have hc2 : World.cell? _ ⟨w.heap.size, 2, none⟩ = some (Value.int .i64 i) := HD.out.cell 2; have hc3 : World.cell? _ ⟨w.heap.size, 3, none⟩ = some (Value.int .u8 x) := HD.out.cell 3; have hc4 : World.cell? _ ⟨w.heap.size, 4, none⟩ = some (Value.int .u8 y) := HD.out.cell 4; have hc5 : World.cell? _ ⟨w.heap.size, 5, none⟩ = some (Value.int .u8 z) := HD.out.cell 5; skip) | (go_at_call 53; (with_reducible refine (dbytesr_c v h i x y z _ UX.out UY.out UZ.out r 0 HS.out).mono ?_); rintro e w_b ⟨v_b, rfl, ho, hb⟩; have HO_b := Aside0.mk (ho.lower (below_size (by repeat (first | (with_reducible first | exact HB.out | apply below_alloc | apply pw_below_drewN | apply below_drew1) | exact HB.out)))); clear ho; have n_ := Aside0.mk (BR.mv (by repeat (first | (with_reducible first | exact HO_a.out | apply BR.alloc | apply BR.drewN | apply BR.drew))) hb); clear HO_a; have HO_a := n_; clear n_; have n_ := Aside0.mk (Bk.mv (by repeat (first | (with_reducible first | exact HD.out | apply Bk.alloc | apply Bk.drewN | apply Bk.drew))) hb); clear HD; have HD := n_; clear n_; have n_ := Aside0.mk (below_step (by repeat (first | (with_reducible first | exact HB.out | apply below_alloc | apply pw_below_drewN | apply below_drew1) | exact HB.out)) hb); clear HB; have HB := n_; clear n_; clear hb;  (try clear hc0 hc1 hc2 hc3 hc4 hc5); have hc0 : World.cell? _ ⟨w.heap.size, 0, none⟩ = some (Value.int .i64 v) := HD.out.cell 0; have hc1 : World.cell? _ ⟨w.heap.size, 1, none⟩ = some (Value.int .i64 h) := HD.out.cell 1; have hc2 : World.cell? _ ⟨w.heap.size, 2, none⟩ = some (Value.int .i64 i) := HD.out.cell 2; have hc3 : World.cell? _ ⟨w.heap.size, 3, none⟩ = some (Value.int .u8 x) := HD.out.cell 3; have hc4 : World.cell? _ ⟨w.heap.size, 4, none⟩ = some (Value.int .u8 y) := HD.out.cell 4; have hc5 : World.cell? _ ⟨w.heap.size, 5, none⟩ = some (Value.int .u8 z) := HD.out.cell 5; skip))
    refine start_ (n := 19) (S := fun w' => w'.cell? ⟨w.heap.size, 0, none⟩ = some (Value.int .i64 v) ∧ w'.cell? ⟨w.heap.size, 1, none⟩ = some (Value.int .i64 h) ∧ w'.cell? ⟨w.heap.size, 2, none⟩ = some (Value.int .i64 i) ∧ w'.cell? ⟨w.heap.size, 3, none⟩ = some (Value.int .u8 x) ∧ w'.cell? ⟨w.heap.size, 4, none⟩ = some (Value.int .u8 y) ∧ w'.cell? ⟨w.heap.size, 5, none⟩ = some (Value.int .u8 z)) (ds := [18]) #[false, false, false, false, false, false, false, false, false, false, false, false, false, false, false, false, false, false, false] (by kernel_rfl) rfl rfl ⟨HD.out.cell 0, HD.out.cell 1, HD.out.cell 2, HD.out.cell 3, HD.out.cell 4, HD.out.cell 5⟩ (fun hHeld => ?_)
    refine with_tabW r11_3.tab r11_3.bits (fun HT_ HW_ => ?_)
    refine take_ (i := 0) (N := some 17) (v := ?_) (a' := ?_) #[true, false, false, false, false, false, false, false, false, false, false, false, false, false, false, false, false, false, false] rfl rfl (take_ofW HT_.out HW_.out (by kernel_rfl)) (fun _ _ _ h => h) (Or.inl ⟨by rfl, ?_⟩) hHeld ?_ ?_
    rotate_left
    · rintro w' ⟨s0, s1, s2, s3, s4, s5⟩
      go_simp
      with_reducible rfl
    rotate_left
    · simp only [Act.put, List.setIfInBounds_toArray, List.set_cons_zero, List.set_cons_succ, i64_w, i32_w]
      rfl
    refine take_ (i := 2) (N := some 19) (v := ?_) (a' := ?_) #[true, false, true, false, false, false, false, false, false, false, false, false, false, false, false, false, false, false, false] rfl rfl (take_ofW HT_.out HW_.out (by kernel_rfl)) (fun _ _ _ h => h) (Or.inl ⟨by rfl, ?_⟩) hHeld ?_ ?_
    rotate_left
    · rintro w' ⟨s0, s1, s2, s3, s4, s5⟩
      go_simp
      with_reducible rfl
    rotate_left
    · simp only [Act.put, List.setIfInBounds_toArray, List.set_cons_zero, List.set_cons_succ, i64_w, i32_w]
      rfl
    refine one_ (i := 1) (N := some 18) #[true, true, true, false, false, false, false, false, false, false, false, false, false, false, false, false, false, false, false] rfl rfl (one_of HT_.out (by kernel_rfl)) (by decide) (fun K hK => ?_)
    refine goes_ Try.func54 (by kernel_rfl) rfl #[(.agg #[.int .i64 v, .int .i64 h, .int .i64 i, .int .u8 x, .int .u8 y, .int .u8 z])] (by rfl) rfl rfl (by (try simp only [List.map_toArray, List.map_cons, List.map_nil]); first | done | rfl) ?_
    with_reducible refine (dcheck_c v h i x y z _).mono ?_
    rintro e w_54 ⟨rfl, hb⟩
    refine ⟨_, rfl, ?_⟩
    have n_ := Aside0.mk (BR.mv (by repeat (first | (with_reducible first | exact HO_a.out | apply BR.alloc | apply BR.drewN | apply BR.drew))) hb); clear HO_a; have HO_a := n_; clear n_
    have n_ := Aside0.mk (BR.mv (by repeat (first | (with_reducible first | exact HO_b.out | apply BR.alloc | apply BR.drewN | apply BR.drew))) hb); clear HO_b; have HO_b := n_; clear n_
    have n_ := Aside0.mk (Bk.mv (by repeat (first | (with_reducible first | exact HD.out | apply Bk.alloc | apply Bk.drewN | apply Bk.drew))) hb); clear HD; have HD := n_; clear n_
    have n_ := Aside0.mk (below_step (by repeat (first | (with_reducible first | exact HB.out | apply below_alloc | apply pw_below_drewN | apply below_drew1) | exact HB.out)) hb); clear HB; have HB := n_; clear n_ hb
    rw [HE.out]
    refine hK.out _ _ ⟨HD.out.cell 0, HD.out.cell 1, HD.out.cell 2, HD.out.cell 3, HD.out.cell 4, HD.out.cell 5⟩ (fun hHeld => ?_)
    clear hK K
    refine norm_ (a' := ?_) ?_ ?_
    rotate_left
    · show Act.put _ (some 18) _ = _
      simp only [Act.put, List.setIfInBounds_toArray, List.set_cons_zero, List.set_cons_succ, i64_w, i32_w]
      rfl
    refine one_ (i := 3) (N := some 20) #[true, true, true, true, false, false, false, false, false, false, false, false, false, false, false, false, false, false, false] rfl rfl (one_of HT_.out (by kernel_rfl)) (by decide) (fun K hK => ?_)
    refine goes_ Try.func55 (by kernel_rfl) rfl #[(.agg #[.int .i64 v, .int .i64 h, .int .i64 i, .int .u8 x, .int .u8 y, .int .u8 z])] (by rfl) rfl rfl (by (try simp only [List.map_toArray, List.map_cons, List.map_nil]); first | done | rfl) ?_
    with_reducible refine (dcheckr_c v h i x y z _).mono ?_
    rintro e w_55 ⟨rfl, hb⟩
    refine ⟨_, rfl, ?_⟩
    have n_ := Aside0.mk (BR.mv (by repeat (first | (with_reducible first | exact HO_a.out | apply BR.alloc | apply BR.drewN | apply BR.drew))) hb); clear HO_a; have HO_a := n_; clear n_
    have n_ := Aside0.mk (BR.mv (by repeat (first | (with_reducible first | exact HO_b.out | apply BR.alloc | apply BR.drewN | apply BR.drew))) hb); clear HO_b; have HO_b := n_; clear n_
    have n_ := Aside0.mk (Bk.mv (by repeat (first | (with_reducible first | exact HD.out | apply Bk.alloc | apply Bk.drewN | apply Bk.drew))) hb); clear HD; have HD := n_; clear n_
    have n_ := Aside0.mk (below_step (by repeat (first | (with_reducible first | exact HB.out | apply below_alloc | apply pw_below_drewN | apply below_drew1) | exact HB.out)) hb); clear HB; have HB := n_; clear n_ hb
    rw [HE.out]
    refine hK.out _ _ ⟨HD.out.cell 0, HD.out.cell 1, HD.out.cell 2, HD.out.cell 3, HD.out.cell 4, HD.out.cell 5⟩ (fun hHeld => ?_)
    clear hK K
    refine norm_ (a' := ?_) ?_ ?_
    rotate_left
    · show Act.put _ (some 20) _ = _
      simp only [Act.put, List.setIfInBounds_toArray, List.set_cons_zero, List.set_cons_succ, i64_w, i32_w]
      rfl
    refine pure_ (i := 4) (N := some 21) (v := ?_) (a' := ?_) #[true, true, true, true, true, false, false, false, false, false, false, false, false, false, false, false, false, false, false] rfl rfl (any_of HT_.out (by kernel_rfl)) (fun _ _ _ h => h) (Or.inl ⟨by rfl, ?_⟩) ?_ ?_
    rotate_left
    · intro w'
      go_simp
      with_reducible rfl
    rotate_left
    · simp only [Act.put, List.setIfInBounds_toArray, List.set_cons_zero, List.set_cons_succ, i64_w, i32_w]
      rfl
    refine pure_ (i := 5) (N := some 22) (v := ?_) (a' := ?_) #[true, true, true, true, true, true, false, false, false, false, false, false, false, false, false, false, false, false, false] rfl rfl (any_of HT_.out (by kernel_rfl)) (fun _ _ _ h => h) (Or.inl ⟨by rfl, ?_⟩) ?_ ?_
    rotate_left
    · intro w'
      go_simp
      with_reducible rfl
    rotate_left
    · simp only [Act.put, List.setIfInBounds_toArray, List.set_cons_zero, List.set_cons_succ, i64_w, i32_w]
      rfl
    refine pure_ (i := 6) (N := some 23) (v := ?_) (a' := ?_) #[true, true, true, true, true, true, true, false, false, false, false, false, false, false, false, false, false, false, false] rfl rfl (any_of HT_.out (by kernel_rfl)) (fun _ _ _ h => h) (Or.inl ⟨by rfl, ?_⟩) ?_ ?_
    rotate_left
    · intro w'
      go_simp
      with_reducible rfl
    rotate_left
    · simp only [Act.put, List.setIfInBounds_toArray, List.set_cons_zero, List.set_cons_succ, i64_w, i32_w]
      rfl
    refine pure_ (i := 7) (N := some 24) (v := ?_) (a' := ?_) #[true, true, true, true, true, true, true, true, false, false, false, false, false, false, false, false, false, false, false] rfl rfl (any_of HT_.out (by kernel_rfl)) (fun _ _ _ h => h) (Or.inl ⟨by rfl, ?_⟩) ?_ ?_
    rotate_left
    · intro w'
      go_simp
      with_reducible rfl
    rotate_left
    · simp only [Act.put, List.setIfInBounds_toArray, List.set_cons_zero, List.set_cons_succ, i64_w, i32_w]
      rfl
    refine one_ (i := 8) (N := some 25) #[true, true, true, true, true, true, true, true, true, false, false, false, false, false, false, false, false, false, false] rfl rfl (one_of HT_.out (by kernel_rfl)) (by decide) (fun K hK => ?_)
    refine goes_ Try.func26 (by kernel_rfl) rfl #[v_a, v_b] (by rfl) rfl rfl (by (try simp only [List.map_toArray, List.map_cons, List.map_nil]); first | done | rfl) ?_
    with_reducible refine (eqb_v v_a v_b r r _ ?s0 ?s1 rfl).mono ?_
    (case s0 => exact BR.bv (by repeat (first | (with_reducible first | exact HO_a.out | apply BR.alloc | apply BR.drewN | apply BR.drew))))
    (case s1 => exact BR.bv (by repeat (first | (with_reducible first | exact HO_b.out | apply BR.alloc | apply BR.drewN | apply BR.drew))))
    rintro e w_26 ⟨rfl, rfl⟩
    refine ⟨_, rfl, ?_⟩
    refine hK.out _ _ ⟨HD.out.cell 0, HD.out.cell 1, HD.out.cell 2, HD.out.cell 3, HD.out.cell 4, HD.out.cell 5⟩ (fun hHeld => ?_)
    clear hK K
    refine norm_ (a' := ?_) ?_ ?_
    rotate_left
    · show Act.put _ (some 25) _ = _
      simp only [Act.put, List.setIfInBounds_toArray, List.set_cons_zero, List.set_cons_succ, i64_w, i32_w]
      rfl
    refine pure_ (i := 9) (N := some 26) (v := ?_) (a' := ?_) #[true, true, true, true, true, true, true, true, true, true, false, false, false, false, false, false, false, false, false] rfl rfl (any_of HT_.out (by kernel_rfl)) (fun _ _ _ h => h) (Or.inl ⟨by rfl, ?_⟩) ?_ ?_
    rotate_left
    · intro w'
      go_simp
      with_reducible rfl
    rotate_left
    · simp only [Act.put, List.setIfInBounds_toArray, List.set_cons_zero, List.set_cons_succ, i64_w, i32_w]
      rfl
    refine pure_ (i := 10) (N := some 27) (v := ?_) (a' := ?_) #[true, true, true, true, true, true, true, true, true, true, true, false, false, false, false, false, false, false, false] rfl rfl (any_of HT_.out (by kernel_rfl)) (fun _ _ _ h => h) (Or.inl ⟨by rfl, ?_⟩) ?_ ?_
    rotate_left
    · intro w'
      go_simp
      with_reducible rfl
    rotate_left
    · simp only [Act.put, List.setIfInBounds_toArray, List.set_cons_zero, List.set_cons_succ, i64_w, i32_w]
      rfl
    refine pure_ (i := 11) (N := some 28) (v := ?_) (a' := ?_) #[true, true, true, true, true, true, true, true, true, true, true, true, false, false, false, false, false, false, false] rfl rfl (any_of HT_.out (by kernel_rfl)) (fun _ _ _ h => h) (Or.inl ⟨by rfl, ?_⟩) ?_ ?_
    rotate_left
    · intro w'
      go_simp
      with_reducible rfl
    rotate_left
    · simp only [Act.put, List.setIfInBounds_toArray, List.set_cons_zero, List.set_cons_succ, i64_w, i32_w]
      rfl
    refine pure_ (i := 12) (N := some 29) (v := ?_) (a' := ?_) #[true, true, true, true, true, true, true, true, true, true, true, true, true, false, false, false, false, false, false] rfl rfl (any_of HT_.out (by kernel_rfl)) (fun _ _ _ h => h) (Or.inl ⟨by rfl, ?_⟩) ?_ ?_
    rotate_left
    · intro w'
      go_simp
      with_reducible rfl
    rotate_left
    · simp only [Act.put, List.setIfInBounds_toArray, List.set_cons_zero, List.set_cons_succ, i64_w, i32_w]
      rfl
    refine pure_ (i := 13) (N := some 30) (v := ?_) (a' := ?_) #[true, true, true, true, true, true, true, true, true, true, true, true, true, true, false, false, false, false, false] rfl rfl (any_of HT_.out (by kernel_rfl)) (fun _ _ _ h => h) (Or.inl ⟨by rfl, ?_⟩) ?_ ?_
    rotate_left
    · intro w'
      go_simp
      with_reducible rfl
    rotate_left
    · simp only [Act.put, List.setIfInBounds_toArray, List.set_cons_zero, List.set_cons_succ, i64_w, i32_w]
      rfl
    refine pure_ (i := 14) (N := some 31) (v := ?_) (a' := ?_) #[true, true, true, true, true, true, true, true, true, true, true, true, true, true, true, false, false, false, false] rfl rfl (any_of HT_.out (by kernel_rfl)) (fun _ _ _ h => h) (Or.inl ⟨by rfl, ?_⟩) ?_ ?_
    rotate_left
    · intro w'
      go_simp
      with_reducible rfl
    rotate_left
    · simp only [Act.put, List.setIfInBounds_toArray, List.set_cons_zero, List.set_cons_succ, i64_w, i32_w]
      rfl
    refine pure_ (i := 15) (N := some 32) (v := ?_) (a' := ?_) #[true, true, true, true, true, true, true, true, true, true, true, true, true, true, true, true, false, false, false] rfl rfl (any_of HT_.out (by kernel_rfl)) (fun _ _ _ h => h) (Or.inl ⟨by rfl, ?_⟩) ?_ ?_
    rotate_left
    · intro w'
      go_simp
      with_reducible rfl
    rotate_left
    · simp only [Act.put, List.setIfInBounds_toArray, List.set_cons_zero, List.set_cons_succ, i64_w, i32_w]
      rfl
    refine one_ (i := 16) (N := some 33) #[true, true, true, true, true, true, true, true, true, true, true, true, true, true, true, true, true, false, false] rfl rfl (one_of HT_.out (by kernel_rfl)) (by decide) (fun K hK => ?_)
    refine goes_ Try.func56 (by kernel_rfl) rfl #[] (by rfl) rfl rfl (by (try simp only [List.map_toArray, List.map_cons, List.map_nil]); first | done | rfl) ?_
    with_reducible refine (works3_c _).mono ?_
    rintro e w_56 ⟨rfl, hb⟩
    refine ⟨_, rfl, ?_⟩
    have n_ := Aside0.mk (BR.mv (by repeat (first | (with_reducible first | exact HO_a.out | apply BR.alloc | apply BR.drewN | apply BR.drew))) hb); clear HO_a; have HO_a := n_; clear n_
    have n_ := Aside0.mk (BR.mv (by repeat (first | (with_reducible first | exact HO_b.out | apply BR.alloc | apply BR.drewN | apply BR.drew))) hb); clear HO_b; have HO_b := n_; clear n_
    have n_ := Aside0.mk (Bk.mv (by repeat (first | (with_reducible first | exact HD.out | apply Bk.alloc | apply Bk.drewN | apply Bk.drew))) hb); clear HD; have HD := n_; clear n_
    have n_ := Aside0.mk (below_step (by repeat (first | (with_reducible first | exact HB.out | apply below_alloc | apply pw_below_drewN | apply below_drew1) | exact HB.out)) hb); clear HB; have HB := n_; clear n_ hb
    refine hK.out _ _ ⟨HD.out.cell 0, HD.out.cell 1, HD.out.cell 2, HD.out.cell 3, HD.out.cell 4, HD.out.cell 5⟩ (fun hHeld => ?_)
    clear hK K
    refine norm_ (a' := ?_) ?_ ?_
    rotate_left
    · show Act.put _ (some 33) _ = _
      simp only [Act.put, List.setIfInBounds_toArray, List.set_cons_zero, List.set_cons_succ, i64_w, i32_w]
      rfl
    refine pure_ (i := 17) (N := some 34) (v := ?_) (a' := ?_) #[true, true, true, true, true, true, true, true, true, true, true, true, true, true, true, true, true, true, false] rfl rfl (any_of HT_.out (by kernel_rfl)) (fun _ _ _ h => h) (Or.inl ⟨by rfl, ?_⟩) ?_ ?_
    rotate_left
    · intro w'
      go_simp
      with_reducible rfl
    rotate_left
    · simp only [Act.put, List.setIfInBounds_toArray, List.set_cons_zero, List.set_cons_succ, i64_w, i32_w]
      rfl
    refine pure_ (i := 18) (N := some 2) (v := ?_) (a' := ?_) #[true, true, true, true, true, true, true, true, true, true, true, true, true, true, true, true, true, true, true] rfl rfl (any_of HT_.out (by kernel_rfl)) (fun _ _ _ h => h) (Or.inl ⟨by rfl, ?_⟩) ?_ ?_
    rotate_left
    · intro w'
      go_simp
      with_reducible rfl
    rotate_left
    · simp only [Act.put, List.setIfInBounds_toArray, List.set_cons_zero, List.set_cons_succ, i64_w, i32_w]
      rfl
    refine done_ (done_of HT_.out (by kernel_rfl)) ?_
    go_wp2
    go_ret
    exact ⟨rfl, HB.out⟩
  · have HE := Aside0.mk (checkD_no hok)
    obtain ⟨r, hr⟩ : ∃ r : List Int, [] = r := ⟨_, rfl⟩
    have HS := Aside0.mk (show bytesD v h i x y z = (r, 2) by rw [bytesD_no hok, hr])
    clear hok hr
    go_wp2_with (first | (go_at_call 52; (with_reducible refine (dbytes_c v h i x y z _ UX.out UY.out UZ.out r 2 HS.out).mono ?_); rintro e w_a ⟨v_a, rfl, ho, hb⟩; have HO_a := Aside0.mk (ho.lower (below_size (by repeat (first | (with_reducible first | exact HB.out | apply below_alloc | apply pw_below_drewN | apply below_drew1) | exact HB.out)))); have HD := Aside0.mk (Bk.mv (by repeat (first | (with_reducible first | exact Bk.alloc0 _ _ _ | apply Bk.drewN | apply Bk.drew) | exact Bk.alloc0 _ _ _)) hb); have n_ := Aside0.mk (below_step (by repeat (first | (with_reducible first | exact HB.out | apply below_alloc | apply pw_below_drewN | apply below_drew1) | exact HB.out)) hb); clear HB; have HB := n_; clear n_; clear hb ho;  (try clear hc0 hc1 hc2 hc3 hc4 hc5); have hc0 : World.cell? _ ⟨w.heap.size, 0, none⟩ = some (Value.int .i64 v) := HD.out.cell 0; have hc1 : World.cell? _ ⟨w.heap.size, 1, none⟩ = some (Value.int .i64 h) := HD.out.cell 1; have hc2 : World.cell? _ ⟨w.heap.size, 2, none⟩ = some (Value.int .i64 i) := HD.out.cell 2; have hc3 : World.cell? _ ⟨w.heap.size, 3, none⟩ = some (Value.int .u8 x) := HD.out.cell 3; have hc4 : World.cell? _ ⟨w.heap.size, 4, none⟩ = some (Value.int .u8 y) := HD.out.cell 4; have hc5 : World.cell? _ ⟨w.heap.size, 5, none⟩ = some (Value.int .u8 z) := HD.out.cell 5; skip) | (go_at_call 53; (with_reducible refine (dbytesr_c v h i x y z _ UX.out UY.out UZ.out r 2 HS.out).mono ?_); rintro e w_b ⟨v_b, rfl, ho, hb⟩; have HO_b := Aside0.mk (ho.lower (below_size (by repeat (first | (with_reducible first | exact HB.out | apply below_alloc | apply pw_below_drewN | apply below_drew1) | exact HB.out)))); clear ho; have n_ := Aside0.mk (BR.mv (by repeat (first | (with_reducible first | exact HO_a.out | apply BR.alloc | apply BR.drewN | apply BR.drew))) hb); clear HO_a; have HO_a := n_; clear n_; have n_ := Aside0.mk (Bk.mv (by repeat (first | (with_reducible first | exact HD.out | apply Bk.alloc | apply Bk.drewN | apply Bk.drew))) hb); clear HD; have HD := n_; clear n_; have n_ := Aside0.mk (below_step (by repeat (first | (with_reducible first | exact HB.out | apply below_alloc | apply pw_below_drewN | apply below_drew1) | exact HB.out)) hb); clear HB; have HB := n_; clear n_; clear hb;  (try clear hc0 hc1 hc2 hc3 hc4 hc5); have hc0 : World.cell? _ ⟨w.heap.size, 0, none⟩ = some (Value.int .i64 v) := HD.out.cell 0; have hc1 : World.cell? _ ⟨w.heap.size, 1, none⟩ = some (Value.int .i64 h) := HD.out.cell 1; have hc2 : World.cell? _ ⟨w.heap.size, 2, none⟩ = some (Value.int .i64 i) := HD.out.cell 2; have hc3 : World.cell? _ ⟨w.heap.size, 3, none⟩ = some (Value.int .u8 x) := HD.out.cell 3; have hc4 : World.cell? _ ⟨w.heap.size, 4, none⟩ = some (Value.int .u8 y) := HD.out.cell 4; have hc5 : World.cell? _ ⟨w.heap.size, 5, none⟩ = some (Value.int .u8 z) := HD.out.cell 5; skip))
    refine start_ (n := 19) (S := fun w' => w'.cell? ⟨w.heap.size, 0, none⟩ = some (Value.int .i64 v) ∧ w'.cell? ⟨w.heap.size, 1, none⟩ = some (Value.int .i64 h) ∧ w'.cell? ⟨w.heap.size, 2, none⟩ = some (Value.int .i64 i) ∧ w'.cell? ⟨w.heap.size, 3, none⟩ = some (Value.int .u8 x) ∧ w'.cell? ⟨w.heap.size, 4, none⟩ = some (Value.int .u8 y) ∧ w'.cell? ⟨w.heap.size, 5, none⟩ = some (Value.int .u8 z)) (ds := [18]) #[false, false, false, false, false, false, false, false, false, false, false, false, false, false, false, false, false, false, false] (by kernel_rfl) rfl rfl ⟨HD.out.cell 0, HD.out.cell 1, HD.out.cell 2, HD.out.cell 3, HD.out.cell 4, HD.out.cell 5⟩ (fun hHeld => ?_)
    refine with_tabW r11_3.tab r11_3.bits (fun HT_ HW_ => ?_)
    refine take_ (i := 0) (N := some 17) (v := ?_) (a' := ?_) #[true, false, false, false, false, false, false, false, false, false, false, false, false, false, false, false, false, false, false] rfl rfl (take_ofW HT_.out HW_.out (by kernel_rfl)) (fun _ _ _ h => h) (Or.inl ⟨by rfl, ?_⟩) hHeld ?_ ?_
    rotate_left
    · rintro w' ⟨s0, s1, s2, s3, s4, s5⟩
      go_simp
      with_reducible rfl
    rotate_left
    · simp only [Act.put, List.setIfInBounds_toArray, List.set_cons_zero, List.set_cons_succ, i64_w, i32_w]
      rfl
    refine take_ (i := 2) (N := some 19) (v := ?_) (a' := ?_) #[true, false, true, false, false, false, false, false, false, false, false, false, false, false, false, false, false, false, false] rfl rfl (take_ofW HT_.out HW_.out (by kernel_rfl)) (fun _ _ _ h => h) (Or.inl ⟨by rfl, ?_⟩) hHeld ?_ ?_
    rotate_left
    · rintro w' ⟨s0, s1, s2, s3, s4, s5⟩
      go_simp
      with_reducible rfl
    rotate_left
    · simp only [Act.put, List.setIfInBounds_toArray, List.set_cons_zero, List.set_cons_succ, i64_w, i32_w]
      rfl
    refine one_ (i := 1) (N := some 18) #[true, true, true, false, false, false, false, false, false, false, false, false, false, false, false, false, false, false, false] rfl rfl (one_of HT_.out (by kernel_rfl)) (by decide) (fun K hK => ?_)
    refine goes_ Try.func54 (by kernel_rfl) rfl #[(.agg #[.int .i64 v, .int .i64 h, .int .i64 i, .int .u8 x, .int .u8 y, .int .u8 z])] (by rfl) rfl rfl (by (try simp only [List.map_toArray, List.map_cons, List.map_nil]); first | done | rfl) ?_
    with_reducible refine (dcheck_c v h i x y z _).mono ?_
    rintro e w_54 ⟨rfl, hb⟩
    refine ⟨_, rfl, ?_⟩
    have n_ := Aside0.mk (BR.mv (by repeat (first | (with_reducible first | exact HO_a.out | apply BR.alloc | apply BR.drewN | apply BR.drew))) hb); clear HO_a; have HO_a := n_; clear n_
    have n_ := Aside0.mk (BR.mv (by repeat (first | (with_reducible first | exact HO_b.out | apply BR.alloc | apply BR.drewN | apply BR.drew))) hb); clear HO_b; have HO_b := n_; clear n_
    have n_ := Aside0.mk (Bk.mv (by repeat (first | (with_reducible first | exact HD.out | apply Bk.alloc | apply Bk.drewN | apply Bk.drew))) hb); clear HD; have HD := n_; clear n_
    have n_ := Aside0.mk (below_step (by repeat (first | (with_reducible first | exact HB.out | apply below_alloc | apply pw_below_drewN | apply below_drew1) | exact HB.out)) hb); clear HB; have HB := n_; clear n_ hb
    rw [HE.out]
    refine hK.out _ _ ⟨HD.out.cell 0, HD.out.cell 1, HD.out.cell 2, HD.out.cell 3, HD.out.cell 4, HD.out.cell 5⟩ (fun hHeld => ?_)
    clear hK K
    refine norm_ (a' := ?_) ?_ ?_
    rotate_left
    · show Act.put _ (some 18) _ = _
      simp only [Act.put, List.setIfInBounds_toArray, List.set_cons_zero, List.set_cons_succ, i64_w, i32_w]
      rfl
    refine one_ (i := 3) (N := some 20) #[true, true, true, true, false, false, false, false, false, false, false, false, false, false, false, false, false, false, false] rfl rfl (one_of HT_.out (by kernel_rfl)) (by decide) (fun K hK => ?_)
    refine goes_ Try.func55 (by kernel_rfl) rfl #[(.agg #[.int .i64 v, .int .i64 h, .int .i64 i, .int .u8 x, .int .u8 y, .int .u8 z])] (by rfl) rfl rfl (by (try simp only [List.map_toArray, List.map_cons, List.map_nil]); first | done | rfl) ?_
    with_reducible refine (dcheckr_c v h i x y z _).mono ?_
    rintro e w_55 ⟨rfl, hb⟩
    refine ⟨_, rfl, ?_⟩
    have n_ := Aside0.mk (BR.mv (by repeat (first | (with_reducible first | exact HO_a.out | apply BR.alloc | apply BR.drewN | apply BR.drew))) hb); clear HO_a; have HO_a := n_; clear n_
    have n_ := Aside0.mk (BR.mv (by repeat (first | (with_reducible first | exact HO_b.out | apply BR.alloc | apply BR.drewN | apply BR.drew))) hb); clear HO_b; have HO_b := n_; clear n_
    have n_ := Aside0.mk (Bk.mv (by repeat (first | (with_reducible first | exact HD.out | apply Bk.alloc | apply Bk.drewN | apply Bk.drew))) hb); clear HD; have HD := n_; clear n_
    have n_ := Aside0.mk (below_step (by repeat (first | (with_reducible first | exact HB.out | apply below_alloc | apply pw_below_drewN | apply below_drew1) | exact HB.out)) hb); clear HB; have HB := n_; clear n_ hb
    rw [HE.out]
    refine hK.out _ _ ⟨HD.out.cell 0, HD.out.cell 1, HD.out.cell 2, HD.out.cell 3, HD.out.cell 4, HD.out.cell 5⟩ (fun hHeld => ?_)
    clear hK K
    refine norm_ (a' := ?_) ?_ ?_
    rotate_left
    · show Act.put _ (some 20) _ = _
      simp only [Act.put, List.setIfInBounds_toArray, List.set_cons_zero, List.set_cons_succ, i64_w, i32_w]
      rfl
    refine pure_ (i := 4) (N := some 21) (v := ?_) (a' := ?_) #[true, true, true, true, true, false, false, false, false, false, false, false, false, false, false, false, false, false, false] rfl rfl (any_of HT_.out (by kernel_rfl)) (fun _ _ _ h => h) (Or.inl ⟨by rfl, ?_⟩) ?_ ?_
    rotate_left
    · intro w'
      go_simp
      with_reducible rfl
    rotate_left
    · simp only [Act.put, List.setIfInBounds_toArray, List.set_cons_zero, List.set_cons_succ, i64_w, i32_w]
      rfl
    refine pure_ (i := 5) (N := some 22) (v := ?_) (a' := ?_) #[true, true, true, true, true, true, false, false, false, false, false, false, false, false, false, false, false, false, false] rfl rfl (any_of HT_.out (by kernel_rfl)) (fun _ _ _ h => h) (Or.inl ⟨by rfl, ?_⟩) ?_ ?_
    rotate_left
    · intro w'
      go_simp
      with_reducible rfl
    rotate_left
    · simp only [Act.put, List.setIfInBounds_toArray, List.set_cons_zero, List.set_cons_succ, i64_w, i32_w]
      rfl
    refine pure_ (i := 6) (N := some 23) (v := ?_) (a' := ?_) #[true, true, true, true, true, true, true, false, false, false, false, false, false, false, false, false, false, false, false] rfl rfl (any_of HT_.out (by kernel_rfl)) (fun _ _ _ h => h) (Or.inl ⟨by rfl, ?_⟩) ?_ ?_
    rotate_left
    · intro w'
      go_simp
      with_reducible rfl
    rotate_left
    · simp only [Act.put, List.setIfInBounds_toArray, List.set_cons_zero, List.set_cons_succ, i64_w, i32_w]
      rfl
    refine pure_ (i := 7) (N := some 24) (v := ?_) (a' := ?_) #[true, true, true, true, true, true, true, true, false, false, false, false, false, false, false, false, false, false, false] rfl rfl (any_of HT_.out (by kernel_rfl)) (fun _ _ _ h => h) (Or.inl ⟨by rfl, ?_⟩) ?_ ?_
    rotate_left
    · intro w'
      go_simp
      with_reducible rfl
    rotate_left
    · simp only [Act.put, List.setIfInBounds_toArray, List.set_cons_zero, List.set_cons_succ, i64_w, i32_w]
      rfl
    refine one_ (i := 8) (N := some 25) #[true, true, true, true, true, true, true, true, true, false, false, false, false, false, false, false, false, false, false] rfl rfl (one_of HT_.out (by kernel_rfl)) (by decide) (fun K hK => ?_)
    refine goes_ Try.func26 (by kernel_rfl) rfl #[v_a, v_b] (by rfl) rfl rfl (by (try simp only [List.map_toArray, List.map_cons, List.map_nil]); first | done | rfl) ?_
    with_reducible refine (eqb_v v_a v_b r r _ ?s0 ?s1 rfl).mono ?_
    (case s0 => exact BR.bv (by repeat (first | (with_reducible first | exact HO_a.out | apply BR.alloc | apply BR.drewN | apply BR.drew))))
    (case s1 => exact BR.bv (by repeat (first | (with_reducible first | exact HO_b.out | apply BR.alloc | apply BR.drewN | apply BR.drew))))
    rintro e w_26 ⟨rfl, rfl⟩
    refine ⟨_, rfl, ?_⟩
    refine hK.out _ _ ⟨HD.out.cell 0, HD.out.cell 1, HD.out.cell 2, HD.out.cell 3, HD.out.cell 4, HD.out.cell 5⟩ (fun hHeld => ?_)
    clear hK K
    refine norm_ (a' := ?_) ?_ ?_
    rotate_left
    · show Act.put _ (some 25) _ = _
      simp only [Act.put, List.setIfInBounds_toArray, List.set_cons_zero, List.set_cons_succ, i64_w, i32_w]
      rfl
    refine pure_ (i := 9) (N := some 26) (v := ?_) (a' := ?_) #[true, true, true, true, true, true, true, true, true, true, false, false, false, false, false, false, false, false, false] rfl rfl (any_of HT_.out (by kernel_rfl)) (fun _ _ _ h => h) (Or.inl ⟨by rfl, ?_⟩) ?_ ?_
    rotate_left
    · intro w'
      go_simp
      with_reducible rfl
    rotate_left
    · simp only [Act.put, List.setIfInBounds_toArray, List.set_cons_zero, List.set_cons_succ, i64_w, i32_w]
      rfl
    refine pure_ (i := 10) (N := some 27) (v := ?_) (a' := ?_) #[true, true, true, true, true, true, true, true, true, true, true, false, false, false, false, false, false, false, false] rfl rfl (any_of HT_.out (by kernel_rfl)) (fun _ _ _ h => h) (Or.inl ⟨by rfl, ?_⟩) ?_ ?_
    rotate_left
    · intro w'
      go_simp
      with_reducible rfl
    rotate_left
    · simp only [Act.put, List.setIfInBounds_toArray, List.set_cons_zero, List.set_cons_succ, i64_w, i32_w]
      rfl
    refine pure_ (i := 11) (N := some 28) (v := ?_) (a' := ?_) #[true, true, true, true, true, true, true, true, true, true, true, true, false, false, false, false, false, false, false] rfl rfl (any_of HT_.out (by kernel_rfl)) (fun _ _ _ h => h) (Or.inl ⟨by rfl, ?_⟩) ?_ ?_
    rotate_left
    · intro w'
      go_simp
      with_reducible rfl
    rotate_left
    · simp only [Act.put, List.setIfInBounds_toArray, List.set_cons_zero, List.set_cons_succ, i64_w, i32_w]
      rfl
    refine pure_ (i := 12) (N := some 29) (v := ?_) (a' := ?_) #[true, true, true, true, true, true, true, true, true, true, true, true, true, false, false, false, false, false, false] rfl rfl (any_of HT_.out (by kernel_rfl)) (fun _ _ _ h => h) (Or.inl ⟨by rfl, ?_⟩) ?_ ?_
    rotate_left
    · intro w'
      go_simp
      with_reducible rfl
    rotate_left
    · simp only [Act.put, List.setIfInBounds_toArray, List.set_cons_zero, List.set_cons_succ, i64_w, i32_w]
      rfl
    refine pure_ (i := 13) (N := some 30) (v := ?_) (a' := ?_) #[true, true, true, true, true, true, true, true, true, true, true, true, true, true, false, false, false, false, false] rfl rfl (any_of HT_.out (by kernel_rfl)) (fun _ _ _ h => h) (Or.inl ⟨by rfl, ?_⟩) ?_ ?_
    rotate_left
    · intro w'
      go_simp
      with_reducible rfl
    rotate_left
    · simp only [Act.put, List.setIfInBounds_toArray, List.set_cons_zero, List.set_cons_succ, i64_w, i32_w]
      rfl
    refine pure_ (i := 14) (N := some 31) (v := ?_) (a' := ?_) #[true, true, true, true, true, true, true, true, true, true, true, true, true, true, true, false, false, false, false] rfl rfl (any_of HT_.out (by kernel_rfl)) (fun _ _ _ h => h) (Or.inl ⟨by rfl, ?_⟩) ?_ ?_
    rotate_left
    · intro w'
      go_simp
      with_reducible rfl
    rotate_left
    · simp only [Act.put, List.setIfInBounds_toArray, List.set_cons_zero, List.set_cons_succ, i64_w, i32_w]
      rfl
    refine pure_ (i := 15) (N := some 32) (v := ?_) (a' := ?_) #[true, true, true, true, true, true, true, true, true, true, true, true, true, true, true, true, false, false, false] rfl rfl (any_of HT_.out (by kernel_rfl)) (fun _ _ _ h => h) (Or.inl ⟨by rfl, ?_⟩) ?_ ?_
    rotate_left
    · intro w'
      go_simp
      with_reducible rfl
    rotate_left
    · simp only [Act.put, List.setIfInBounds_toArray, List.set_cons_zero, List.set_cons_succ, i64_w, i32_w]
      rfl
    refine one_ (i := 16) (N := some 33) #[true, true, true, true, true, true, true, true, true, true, true, true, true, true, true, true, true, false, false] rfl rfl (one_of HT_.out (by kernel_rfl)) (by decide) (fun K hK => ?_)
    refine goes_ Try.func56 (by kernel_rfl) rfl #[] (by rfl) rfl rfl (by (try simp only [List.map_toArray, List.map_cons, List.map_nil]); first | done | rfl) ?_
    with_reducible refine (works3_c _).mono ?_
    rintro e w_56 ⟨rfl, hb⟩
    refine ⟨_, rfl, ?_⟩
    have n_ := Aside0.mk (BR.mv (by repeat (first | (with_reducible first | exact HO_a.out | apply BR.alloc | apply BR.drewN | apply BR.drew))) hb); clear HO_a; have HO_a := n_; clear n_
    have n_ := Aside0.mk (BR.mv (by repeat (first | (with_reducible first | exact HO_b.out | apply BR.alloc | apply BR.drewN | apply BR.drew))) hb); clear HO_b; have HO_b := n_; clear n_
    have n_ := Aside0.mk (Bk.mv (by repeat (first | (with_reducible first | exact HD.out | apply Bk.alloc | apply Bk.drewN | apply Bk.drew))) hb); clear HD; have HD := n_; clear n_
    have n_ := Aside0.mk (below_step (by repeat (first | (with_reducible first | exact HB.out | apply below_alloc | apply pw_below_drewN | apply below_drew1) | exact HB.out)) hb); clear HB; have HB := n_; clear n_ hb
    refine hK.out _ _ ⟨HD.out.cell 0, HD.out.cell 1, HD.out.cell 2, HD.out.cell 3, HD.out.cell 4, HD.out.cell 5⟩ (fun hHeld => ?_)
    clear hK K
    refine norm_ (a' := ?_) ?_ ?_
    rotate_left
    · show Act.put _ (some 33) _ = _
      simp only [Act.put, List.setIfInBounds_toArray, List.set_cons_zero, List.set_cons_succ, i64_w, i32_w]
      rfl
    refine pure_ (i := 17) (N := some 34) (v := ?_) (a' := ?_) #[true, true, true, true, true, true, true, true, true, true, true, true, true, true, true, true, true, true, false] rfl rfl (any_of HT_.out (by kernel_rfl)) (fun _ _ _ h => h) (Or.inl ⟨by rfl, ?_⟩) ?_ ?_
    rotate_left
    · intro w'
      go_simp
      with_reducible rfl
    rotate_left
    · simp only [Act.put, List.setIfInBounds_toArray, List.set_cons_zero, List.set_cons_succ, i64_w, i32_w]
      rfl
    refine pure_ (i := 18) (N := some 2) (v := ?_) (a' := ?_) #[true, true, true, true, true, true, true, true, true, true, true, true, true, true, true, true, true, true, true] rfl rfl (any_of HT_.out (by kernel_rfl)) (fun _ _ _ h => h) (Or.inl ⟨by rfl, ?_⟩) ?_ ?_
    rotate_left
    · intro w'
      go_simp
      with_reducible rfl
    rotate_left
    · simp only [Act.put, List.setIfInBounds_toArray, List.set_cons_zero, List.set_cons_succ, i64_w, i32_w]
      rfl
    refine done_ (done_of HT_.out (by kernel_rfl)) ?_
    go_wp2
    go_ret
    exact ⟨rfl, HB.out⟩

end Go.Proofs.Ytkgjmajabgpadaa
