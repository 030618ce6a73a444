import Derived.Test.YtkgjmajabgpadaaR4
import Derived.Test.YtkgjmajabgpadaaD5
namespace Go.Proofs.Ytkgjmajabgpadaa
set_option linter.unusedVariables false
set_option linter.unusedSimpArgs false
open Go.RowKit Go.Proofs.YtkgjmajabgpadaaW.PrintWords Go.Proofs.YtkgjmajabgpadaaW.PrintLast Go.Proofs.YtkgjmajabgpadaaW.PrintMore
def madC (c : Int) : Int := if c % 2 = 0 then 0 else 1 + c % 6
def madD (c d : Int) : Int := if c % 2 = 0 then 0 else 1 + d % 4
theorem made4_ok (a b c d n : Int) : okP (1 + a % 6) (1 + b % 4) (madC c) (madD c d) (n % 65536) := by
  unfold okP endP madC madD
  by_cases h : c % 2 = 0
  · rw [if_pos h, if_pos h]
    omega
  · rw [if_neg h, if_neg h]
    omega
theorem wrap_small (x m : Int) (h0 : 0 < m) (h1 : m ≤ 65536) : wrap64 (1 + x % m) = 1 + x % m := by
  have a0 := Int.emod_nonneg x (show m ≠ 0 by omega)
  have a1 := Int.emod_lt_of_pos x h0
  unfold wrap64
  omega
theorem made_two (w : World) (p z : Array Value) : Bk ((w.alloc (.cells p 42)).alloc (.cells z 42)) (w.heap.size + 1) z 42 := by
  have := Bk.alloc0 (w.alloc (.cells p 42)) z 42
  rwa [World.size_alloc] at this
theorem made_three (w : World) (p z m : Array Value) : Bk (((w.alloc (.cells p 42)).alloc (.cells z 42)).alloc (.cells m 42)) (w.heap.size + 1 + 1) m 42 := by
  have := Bk.alloc0 ((w.alloc (.cells p 42)).alloc (.cells z 42)) m 42
  rwa [World.size_alloc, World.size_alloc] at this
def r62_1.T : Bool × List (List Nat × List Nat) := (true, [([], []), ([0], [0]), ([1], [1]), ([2], [2]), ([], []), ([4], [4]), ([5, 2], [5]), ([6], [6]), ([], []), ([8], [8]), ([9, 6], [9]), ([3, 7, 10], [3, 7, 10]), ([], []), ([12, 11, 10, 0, 1, 2, 3, 4, 5, 6, 7, 8, 9, 10, 11, 12], [11, 12])])
def r62_1.B : List Nat := [0, 1, 3, 7, 0, 16, 55, 119, 0, 256, 887, 2047, 0, 8191]
theorem r62_1.tab : rtab .any (opsOf Try.f62 1) = r62_1.T := by kernel_rfl
theorem r62_1.bits : waitsOk r62_1.T.2 r62_1.B = true := by kernel_rfl
set_option maxHeartbeats 8000000 in
set_option maxRecDepth 100000 in
theorem made4_c (a b c d n : Int) (w : World) (wa : (Lit.int .i64 a).wf = true) (wb : (Lit.int .i64 b).wf = true) (wc : (Lit.int .i64 c).wf = true) (wd : (Lit.int .i64 d).wf = true) (wn : (Lit.int .i64 n).wf = true) : Calls Try.prog 62 #[.agg #[.int .i64 a, .int .i64 b, .int .i64 c, .int .i64 d, .int .i64 n]] w fun e w' => e = .returned (.agg #[.int .i64 (1 + a % 6), .int .i64 (1 + b % 4), .int .i64 (madC c), .int .i64 (madD c d), .int .i64 (n % 65536)]) ∧ Below w.heap.size w w' := by
  have HB := Aside0.mk (Below.refl w.heap.size w)
  have HA := Aside0.mk wa
  have HBB := Aside0.mk wb
  have HCC := Aside0.mk wc
  have HDD := Aside0.mk wd
  have HNN := Aside0.mk wn
  clear wa wb wc wd wn
  have HD := Aside0.mk ((Bk.alloc0 w #[.int .i64 a, .int .i64 b, .int .i64 c, .int .i64 d, .int .i64 n] 42).alloc (.cells #[.int .i64 0, .int .i64 0, .int .i64 0, .int .i64 0, .int .i64 0] 42))
  go_enter Try.func62, Try.ntmps62
  go_wp2
  refine start_ (n := 14) (S := fun w' => w'.cell? ⟨w.heap.size, 0, none⟩ = some (Value.int .i64 a) ∧ w'.cell? ⟨w.heap.size, 1, none⟩ = some (Value.int .i64 b) ∧ w'.cell? ⟨w.heap.size, 4, none⟩ = some (Value.int .i64 n)) (ds := [13]) #[false, false, false, false, false, false, false, false, false, false, false, false, false, false] (by kernel_rfl) rfl rfl ⟨(HD.out : Bk _ _ _ _).cell 0, (HD.out : Bk _ _ _ _).cell 1, (HD.out : Bk _ _ _ _).cell 4⟩ (fun hHeld => ?_)
  refine with_tabW r62_1.tab r62_1.bits (fun HT_ HW_ => ?_)
  refine pure_ (i := 0) (N := some 4) (v := ?_) (a' := ?_) #[true, false, false, false, false, false, false, false, false, false, false, false, false, false] rfl rfl (any_of HT_.out (by kernel_rfl)) (fun _ _ _ h => h) (Or.inl ⟨by rfl, ?_⟩) ?_ ?_
  rotate_left
  · intro w'
    go_simp
    with_reducible rfl
  rotate_left
  · simp only [Act.put, List.setIfInBounds_toArray, List.set_cons_zero, List.set_cons_succ, i64_w, i32_w]
    rfl
  refine pure_ (i := 4) (N := some 8) (v := ?_) (a' := ?_) #[true, false, false, false, true, false, false, false, false, false, false, false, false, false] rfl rfl (any_of HT_.out (by kernel_rfl)) (fun _ _ _ h => h) (Or.inl ⟨by rfl, ?_⟩) ?_ ?_
  rotate_left
  · intro w'
    go_simp
    with_reducible rfl
  rotate_left
  · simp only [Act.put, List.setIfInBounds_toArray, List.set_cons_zero, List.set_cons_succ, i64_w, i32_w]
    rfl
  refine pure_ (i := 8) (N := some 12) (v := ?_) (a' := ?_) #[true, false, false, false, true, false, false, false, true, false, false, false, false, false] rfl rfl (any_of HT_.out (by kernel_rfl)) (fun _ _ _ h => h) (Or.inl ⟨by rfl, ?_⟩) ?_ ?_
  rotate_left
  · intro w'
    go_simp
    with_reducible rfl
  rotate_left
  · simp only [Act.put, List.setIfInBounds_toArray, List.set_cons_zero, List.set_cons_succ, i64_w, i32_w]
    rfl
  refine take_ (i := 1) (N := some 5) (v := ?_) (a' := ?_) #[true, true, false, false, true, false, false, false, true, false, false, false, false, false] rfl rfl (take_ofW HT_.out HW_.out (by kernel_rfl)) (fun _ _ _ h => h) (Or.inl ⟨by rfl, ?_⟩) hHeld ?_ ?_
  rotate_left
  · rintro w' ⟨s0, s1, s4⟩
    go_simp
    with_reducible rfl
  rotate_left
  · simp only [Act.put, List.setIfInBounds_toArray, List.set_cons_zero, List.set_cons_succ, i64_w, i32_w]
    rfl
  refine take_ (i := 5) (N := some 9) (v := ?_) (a' := ?_) #[true, true, false, false, true, true, false, false, true, false, false, false, false, false] rfl rfl (take_ofW HT_.out HW_.out (by kernel_rfl)) (fun _ _ _ h => h) (Or.inl ⟨by rfl, ?_⟩) hHeld ?_ ?_
  rotate_left
  · rintro w' ⟨s0, s1, s4⟩
    go_simp
    with_reducible rfl
  rotate_left
  · simp only [Act.put, List.setIfInBounds_toArray, List.set_cons_zero, List.set_cons_succ, i64_w, i32_w]
    rfl
  refine take_ (i := 9) (N := some 13) (v := ?_) (a' := ?_) #[true, true, false, false, true, true, false, false, true, true, false, false, false, false] rfl rfl (take_ofW HT_.out HW_.out (by kernel_rfl)) (fun _ _ _ h => h) (Or.inl ⟨by rfl, ?_⟩) hHeld ?_ ?_
  rotate_left
  · rintro w' ⟨s0, s1, s4⟩
    go_simp
    with_reducible rfl
  rotate_left
  · simp only [Act.put, List.setIfInBounds_toArray, List.set_cons_zero, List.set_cons_succ, i64_w, i32_w]
    rfl
  refine two_ (i := 2) (j := 12) (Ni := some 6) (Nj := some 3) #[true, true, true, false, true, true, false, false, true, true, false, false, false, false] #[true, true, false, false, true, true, false, false, true, true, false, false, true, false] rfl rfl rfl rfl (by kernel_rfl) (by decide) (by decide) (fun K hK => ?_) (fun K hK => ?_)
  · refine goes_ Try.func32 (by kernel_rfl) rfl #[(.int .i64 a), (.int .i64 6)] (by rfl) rfl rfl (by (try simp only [List.map_toArray, List.map_cons, List.map_nil]); first | done | rfl) ?_
    with_reducible refine (bring_c a 6 _ HA.out (by decide) (by decide)).mono ?_
    rintro e w_32 ⟨rfl, rfl⟩
    refine ⟨_, rfl, ?_⟩
    refine hK.out _ _ (by first | exact ⟨HD.out.cell 0, HD.out.cell 1, HD.out.cell 4⟩ | exact ⟨(HD.out.alloc _).cell 0, (HD.out.alloc _).cell 1, (HD.out.alloc _).cell 4⟩) (fun hHeld => ?_)
    clear hK K
    refine norm_ (a' := ?_) ?_ ?_
    rotate_left
    · show Act.put _ (some 6) _ = _
      simp only [Act.put, List.setIfInBounds_toArray, List.set_cons_zero, List.set_cons_succ, i64_w, i32_w]
      rfl
    refine pure_ (i := 3) (N := some 7) (v := ?_) (a' := ?_) #[true, true, true, true, true, true, false, false, true, true, false, false, false, false] rfl rfl (any_of HT_.out (by kernel_rfl)) (fun _ _ _ h => h) (Or.inl ⟨by rfl, ?_⟩) ?_ ?_
    rotate_left
    · intro w'
      go_simp
      with_reducible rfl
    rotate_left
    · simp only [Act.put, List.setIfInBounds_toArray, List.set_cons_zero, List.set_cons_succ, i64_w, i32_w]
      rfl
    refine two_ (i := 6) (j := 12) (Ni := some 10) (Nj := some 3) #[true, true, true, true, true, true, true, false, true, true, false, false, false, false] #[true, true, true, true, true, true, false, false, true, true, false, false, true, false] rfl rfl rfl rfl (by kernel_rfl) (by decide) (by decide) (fun K hK => ?_) (fun K hK => ?_)
    · refine goes_ Try.func32 (by kernel_rfl) rfl #[(.int .i64 b), (.int .i64 4)] (by rfl) rfl rfl (by (try simp only [List.map_toArray, List.map_cons, List.map_nil]); first | done | rfl) ?_
      with_reducible refine (bring_c b 4 _ HBB.out (by decide) (by decide)).mono ?_
      rintro e w_32 ⟨rfl, rfl⟩
      refine ⟨_, rfl, ?_⟩
      refine hK.out _ _ (by first | exact ⟨HD.out.cell 0, HD.out.cell 1, HD.out.cell 4⟩ | exact ⟨(HD.out.alloc _).cell 0, (HD.out.alloc _).cell 1, (HD.out.alloc _).cell 4⟩) (fun hHeld => ?_)
      clear hK K
      refine norm_ (a' := ?_) ?_ ?_
      rotate_left
      · show Act.put _ (some 10) _ = _
        simp only [Act.put, List.setIfInBounds_toArray, List.set_cons_zero, List.set_cons_succ, i64_w, i32_w]
        rfl
      refine pure_ (i := 7) (N := some 11) (v := ?_) (a' := ?_) #[true, true, true, true, true, true, true, true, true, true, false, false, false, false] rfl rfl (any_of HT_.out (by kernel_rfl)) (fun _ _ _ h => h) (Or.inl ⟨by rfl, ?_⟩) ?_ ?_
      rotate_left
      · intro w'
        go_simp
        with_reducible rfl
      rotate_left
      · simp only [Act.put, List.setIfInBounds_toArray, List.set_cons_zero, List.set_cons_succ, i64_w, i32_w]
        rfl
      refine two_ (i := 10) (j := 12) (Ni := some 14) (Nj := some 3) #[true, true, true, true, true, true, true, true, true, true, true, false, false, false] #[true, true, true, true, true, true, true, true, true, true, false, false, true, false] rfl rfl rfl rfl (by kernel_rfl) (by decide) (by decide) (fun K hK => ?_) (fun K hK => ?_)
      · refine goes_ Try.func32 (by kernel_rfl) rfl #[(.int .i64 n), (.int .i64 65536)] (by rfl) rfl rfl (by (try simp only [List.map_toArray, List.map_cons, List.map_nil]); first | done | rfl) ?_
        with_reducible refine (bring_c n 65536 _ HNN.out (by decide) (by decide)).mono ?_
        rintro e w_32 ⟨rfl, rfl⟩
        refine ⟨_, rfl, ?_⟩
        refine hK.out _ _ (by first | exact ⟨HD.out.cell 0, HD.out.cell 1, HD.out.cell 4⟩ | exact ⟨(HD.out.alloc _).cell 0, (HD.out.alloc _).cell 1, (HD.out.alloc _).cell 4⟩) (fun hHeld => ?_)
        clear hK K
        refine norm_ (a' := ?_) ?_ ?_
        rotate_left
        · show Act.put _ (some 14) _ = _
          simp only [Act.put, List.setIfInBounds_toArray, List.set_cons_zero, List.set_cons_succ, i64_w, i32_w]
          rfl
        refine pure_ (i := 11) (N := some 15) (v := ?_) (a' := ?_) #[true, true, true, true, true, true, true, true, true, true, true, true, false, false] rfl rfl (any_of HT_.out (by kernel_rfl)) (fun _ _ _ h => h) (Or.inl ⟨by rfl, ?_⟩) ?_ ?_
        rotate_left
        · intro w'
          go_simp
          with_reducible rfl
        rotate_left
        · simp only [Act.put, List.setIfInBounds_toArray, List.set_cons_zero, List.set_cons_succ, i64_w, i32_w]
          rfl
        refine one_ (i := 12) (N := some 3) #[true, true, true, true, true, true, true, true, true, true, true, true, true, false] rfl rfl (one_of HT_.out (by kernel_rfl)) (by decide) (fun K hK => ?_)
        refine value_ (v := ?_) (w1 := ?_) (by rfl) rfl ?_ ?_
        rotate_left 2
        · go_simp
          first | (with_reducible rfl) | (refine ⟨?_, ?_⟩ <;> with_reducible rfl)
        refine hK.out _ _ (by first | exact ⟨HD.out.cell 0, HD.out.cell 1, HD.out.cell 4⟩ | exact ⟨(HD.out.alloc _).cell 0, (HD.out.alloc _).cell 1, (HD.out.alloc _).cell 4⟩) (fun hHeld => ?_)
        clear hK K
        refine norm_ (a' := ?_) ?_ ?_
        rotate_left
        · show Act.put _ (some 3) _ = _
          simp only [Act.put, List.setIfInBounds_toArray, List.set_cons_zero, List.set_cons_succ, i64_w, i32_w]
          rfl
        refine last_ (i := 13) (N := none) #[true, true, true, true, true, true, true, true, true, true, true, true, true, true] rfl rfl (one_of HT_.out (by kernel_rfl)) (by decide) (fun K hK => ?_)
        refine skip_ (w1 := ?_) (by rfl) rfl ?_ ?_
        rotate_left
        · go_simp
          with_reducible rfl
        refine hK.out _ _ ?_
        clear hK K
        refine done_ (done_of HT_.out (by kernel_rfl)) ?_
        generalize e1 : wrap64 (1 + a % 6) = m1
        generalize e2 : wrap64 (1 + b % 4) = m2
        generalize hW : World.drew (World.alloc (World.alloc (World.alloc w (.cells #[.int .i64 a, .int .i64 b, .int .i64 c, .int .i64 d, .int .i64 n] 42)) (.cells #[.int .i64 0, .int .i64 0, .int .i64 0, .int .i64 0, .int .i64 0] 42)) (.cells #[.int .i64 m1, .int .i64 m2, .int .i64 0, .int .i64 0, .int .i64 (n % 65536)] 42)) = W
        have HP := Aside0.mk (show Bk W w.heap.size #[.int .i64 a, .int .i64 b, .int .i64 c, .int .i64 d, .int .i64 n] 42 from hW ▸ ((HD.out.alloc _).drew))
        have HZ := Aside0.mk (show Bk W (w.heap.size + 1) #[.int .i64 0, .int .i64 0, .int .i64 0, .int .i64 0, .int .i64 0] 42 from hW ▸ (((made_two w #[.int .i64 a, .int .i64 b, .int .i64 c, .int .i64 d, .int .i64 n] #[.int .i64 0, .int .i64 0, .int .i64 0, .int .i64 0, .int .i64 0]).alloc _).drew))
        have HM := Aside0.mk (show Bk W (w.heap.size + 1 + 1) #[.int .i64 m1, .int .i64 m2, .int .i64 0, .int .i64 0, .int .i64 (n % 65536)] 42 from hW ▸ ((made_three w #[.int .i64 a, .int .i64 b, .int .i64 c, .int .i64 d, .int .i64 n] #[.int .i64 0, .int .i64 0, .int .i64 0, .int .i64 0, .int .i64 0] #[.int .i64 m1, .int .i64 m2, .int .i64 0, .int .i64 0, .int .i64 (n % 65536)]).drew))
        have HBW := Aside0.mk (show Below w.heap.size w W from hW ▸ below_drew (below_alloc (below_alloc (below_alloc HB.out _) _) _))
        have E1 := Aside0.mk (show m1 = 1 + a % 6 by rw [← e1]; exact wrap_small a 6 (by omega) (by omega))
        have E2 := Aside0.mk (show m2 = 1 + b % 4 by rw [← e2]; exact wrap_small b 4 (by omega) (by omega))
        clear hW e1 e2 HB HD hHeld HT_ HW_
        have hpc2 : World.cell? W ⟨w.heap.size, 2, none⟩ = some (Value.int .i64 c) := HP.out.cell 2
        by_cases h2 : c % 2 = 0
        · have ht : c.tmod 2 = 0 := by have := Int.tmod_def c 2; rw [Int.tmod_eq_emod]; split <;> omega
          have E3 := Aside0.mk h2
          clear h2
          have mc0 : World.cell? W ⟨(w.heap.size + 1 + 1), 0, none⟩ = some (Value.int .i64 m1) := (HM.out).cell 0
          have mc1 : World.cell? W ⟨(w.heap.size + 1 + 1), 1, none⟩ = some (Value.int .i64 m2) := (HM.out).cell 1
          have mc2 : World.cell? W ⟨(w.heap.size + 1 + 1), 2, none⟩ = some (Value.int .i64 0) := (HM.out).cell 2
          have mc3 : World.cell? W ⟨(w.heap.size + 1 + 1), 3, none⟩ = some (Value.int .i64 0) := (HM.out).cell 3
          have mc4 : World.cell? W ⟨(w.heap.size + 1 + 1), 4, none⟩ = some (Value.int .i64 (n % 65536)) := (HM.out).cell 4
          have zc0 : World.cell? W ⟨(w.heap.size + 1), 0, none⟩ = some (Value.int .i64 0) := (HZ.out).cell 0
          have zc1 : World.cell? W ⟨(w.heap.size + 1), 1, none⟩ = some (Value.int .i64 0) := (HZ.out).cell 1
          have zc2 : World.cell? W ⟨(w.heap.size + 1), 2, none⟩ = some (Value.int .i64 0) := (HZ.out).cell 2
          have zc3 : World.cell? W ⟨(w.heap.size + 1), 3, none⟩ = some (Value.int .i64 0) := (HZ.out).cell 3
          have zc4 : World.cell? W ⟨(w.heap.size + 1), 4, none⟩ = some (Value.int .i64 0) := (HZ.out).cell 4
          have zf0 : World.frozen? W ⟨(w.heap.size + 1), 0, none⟩ = false := (HZ.out).frozen 0
          have zf1 : World.frozen? W ⟨(w.heap.size + 1), 1, none⟩ = false := (HZ.out).frozen 1
          have zf2 : World.frozen? W ⟨(w.heap.size + 1), 2, none⟩ = false := (HZ.out).frozen 2
          have zf3 : World.frozen? W ⟨(w.heap.size + 1), 3, none⟩ = false := (HZ.out).frozen 3
          have zf4 : World.frozen? W ⟨(w.heap.size + 1), 4, none⟩ = false := (HZ.out).frozen 4
          go_wp2
          refine bodyPost_ret (results_cell_row rfl _ _ (w.heap.size + 1) 42 _ (0, 0) _ rfl (HZ.out.put5 rfl _ _ _ _ _) Try.underlying42 rfl (by kernel_rfl)) rfl ?_
          exact ⟨by rw [E1.out, E2.out, madC, madD, if_pos E3.out, if_pos E3.out], below5 HBW.out (Nat.le_succ _) _ _ _ _ _⟩
        · obtain ⟨r, ht⟩ : ∃ r, c.tmod 2 = r := ⟨_, rfl⟩
          have hr : r ≠ 0 := by intro h; have := Int.tmod_def c 2; rw [Int.tmod_eq_emod] at ht; split at ht <;> omega
          have z0 : (r == 0) = false := by simp [hr]
          have z1 : (r != 0) = true := by simp [hr]
          have E3 := Aside0.mk h2
          clear h2 hr
          have hne1 : w.heap.size + 1 ≠ w.heap.size + 1 + 1 := by omega
          have hne2 : w.heap.size ≠ w.heap.size + 1 + 1 := by omega
          have mc2 : World.cell? W ⟨(w.heap.size + 1 + 1), 2, none⟩ = some (Value.int .i64 0) := (HM.out).cell 2
          have mf2 : World.frozen? W ⟨(w.heap.size + 1 + 1), 2, none⟩ = false := (HM.out).frozen 2
          have pc3 : World.cell? (World.setCell W ⟨w.heap.size + 1 + 1, 2, none⟩ (.int .i64 (1 + c % 6))) ⟨w.heap.size, 3, none⟩ = some (Value.int .i64 d) := (HP.out.other 2 (.int .i64 (1 + c % 6)) hne2).cell 3
          have nc3 : World.cell? (World.setCell W ⟨w.heap.size + 1 + 1, 2, none⟩ (.int .i64 (1 + c % 6))) ⟨(w.heap.size + 1 + 1), 3, none⟩ = some (Value.int .i64 0) := (HM.out.put 2 (.int .i64 (1 + c % 6))).cell 3
          have nf3 : World.frozen? (World.setCell W ⟨w.heap.size + 1 + 1, 2, none⟩ (.int .i64 (1 + c % 6))) ⟨(w.heap.size + 1 + 1), 3, none⟩ = false := (HM.out.put 2 (.int .i64 (1 + c % 6))).frozen 3
          have qc0 : World.cell? (World.setCell (World.setCell W ⟨w.heap.size + 1 + 1, 2, none⟩ (.int .i64 (1 + c % 6))) ⟨w.heap.size + 1 + 1, 3, none⟩ (.int .i64 (1 + d % 4))) ⟨(w.heap.size + 1 + 1), 0, none⟩ = some (Value.int .i64 m1) := ((HM.out.put 2 (.int .i64 (1 + c % 6))).put 3 (.int .i64 (1 + d % 4))).cell 0
          have qc1 : World.cell? (World.setCell (World.setCell W ⟨w.heap.size + 1 + 1, 2, none⟩ (.int .i64 (1 + c % 6))) ⟨w.heap.size + 1 + 1, 3, none⟩ (.int .i64 (1 + d % 4))) ⟨(w.heap.size + 1 + 1), 1, none⟩ = some (Value.int .i64 m2) := ((HM.out.put 2 (.int .i64 (1 + c % 6))).put 3 (.int .i64 (1 + d % 4))).cell 1
          have qc2 : World.cell? (World.setCell (World.setCell W ⟨w.heap.size + 1 + 1, 2, none⟩ (.int .i64 (1 + c % 6))) ⟨w.heap.size + 1 + 1, 3, none⟩ (.int .i64 (1 + d % 4))) ⟨(w.heap.size + 1 + 1), 2, none⟩ = some (Value.int .i64 (1 + c % 6)) := ((HM.out.put 2 (.int .i64 (1 + c % 6))).put 3 (.int .i64 (1 + d % 4))).cell 2
          have qc3 : World.cell? (World.setCell (World.setCell W ⟨w.heap.size + 1 + 1, 2, none⟩ (.int .i64 (1 + c % 6))) ⟨w.heap.size + 1 + 1, 3, none⟩ (.int .i64 (1 + d % 4))) ⟨(w.heap.size + 1 + 1), 3, none⟩ = some (Value.int .i64 (1 + d % 4)) := ((HM.out.put 2 (.int .i64 (1 + c % 6))).put 3 (.int .i64 (1 + d % 4))).cell 3
          have qc4 : World.cell? (World.setCell (World.setCell W ⟨w.heap.size + 1 + 1, 2, none⟩ (.int .i64 (1 + c % 6))) ⟨w.heap.size + 1 + 1, 3, none⟩ (.int .i64 (1 + d % 4))) ⟨(w.heap.size + 1 + 1), 4, none⟩ = some (Value.int .i64 (n % 65536)) := ((HM.out.put 2 (.int .i64 (1 + c % 6))).put 3 (.int .i64 (1 + d % 4))).cell 4
          have zc0 : World.cell? (World.setCell (World.setCell W ⟨w.heap.size + 1 + 1, 2, none⟩ (.int .i64 (1 + c % 6))) ⟨w.heap.size + 1 + 1, 3, none⟩ (.int .i64 (1 + d % 4))) ⟨(w.heap.size + 1), 0, none⟩ = some (Value.int .i64 0) := ((HZ.out.other 2 (.int .i64 (1 + c % 6)) hne1).other 3 (.int .i64 (1 + d % 4)) hne1).cell 0
          have zc1 : World.cell? (World.setCell (World.setCell W ⟨w.heap.size + 1 + 1, 2, none⟩ (.int .i64 (1 + c % 6))) ⟨w.heap.size + 1 + 1, 3, none⟩ (.int .i64 (1 + d % 4))) ⟨(w.heap.size + 1), 1, none⟩ = some (Value.int .i64 0) := ((HZ.out.other 2 (.int .i64 (1 + c % 6)) hne1).other 3 (.int .i64 (1 + d % 4)) hne1).cell 1
          have zc2 : World.cell? (World.setCell (World.setCell W ⟨w.heap.size + 1 + 1, 2, none⟩ (.int .i64 (1 + c % 6))) ⟨w.heap.size + 1 + 1, 3, none⟩ (.int .i64 (1 + d % 4))) ⟨(w.heap.size + 1), 2, none⟩ = some (Value.int .i64 0) := ((HZ.out.other 2 (.int .i64 (1 + c % 6)) hne1).other 3 (.int .i64 (1 + d % 4)) hne1).cell 2
          have zc3 : World.cell? (World.setCell (World.setCell W ⟨w.heap.size + 1 + 1, 2, none⟩ (.int .i64 (1 + c % 6))) ⟨w.heap.size + 1 + 1, 3, none⟩ (.int .i64 (1 + d % 4))) ⟨(w.heap.size + 1), 3, none⟩ = some (Value.int .i64 0) := ((HZ.out.other 2 (.int .i64 (1 + c % 6)) hne1).other 3 (.int .i64 (1 + d % 4)) hne1).cell 3
          have zc4 : World.cell? (World.setCell (World.setCell W ⟨w.heap.size + 1 + 1, 2, none⟩ (.int .i64 (1 + c % 6))) ⟨w.heap.size + 1 + 1, 3, none⟩ (.int .i64 (1 + d % 4))) ⟨(w.heap.size + 1), 4, none⟩ = some (Value.int .i64 0) := ((HZ.out.other 2 (.int .i64 (1 + c % 6)) hne1).other 3 (.int .i64 (1 + d % 4)) hne1).cell 4
          have zf0 : World.frozen? (World.setCell (World.setCell W ⟨w.heap.size + 1 + 1, 2, none⟩ (.int .i64 (1 + c % 6))) ⟨w.heap.size + 1 + 1, 3, none⟩ (.int .i64 (1 + d % 4))) ⟨(w.heap.size + 1), 0, none⟩ = false := ((HZ.out.other 2 (.int .i64 (1 + c % 6)) hne1).other 3 (.int .i64 (1 + d % 4)) hne1).frozen 0
          have zf1 : World.frozen? (World.setCell (World.setCell W ⟨w.heap.size + 1 + 1, 2, none⟩ (.int .i64 (1 + c % 6))) ⟨w.heap.size + 1 + 1, 3, none⟩ (.int .i64 (1 + d % 4))) ⟨(w.heap.size + 1), 1, none⟩ = false := ((HZ.out.other 2 (.int .i64 (1 + c % 6)) hne1).other 3 (.int .i64 (1 + d % 4)) hne1).frozen 1
          have zf2 : World.frozen? (World.setCell (World.setCell W ⟨w.heap.size + 1 + 1, 2, none⟩ (.int .i64 (1 + c % 6))) ⟨w.heap.size + 1 + 1, 3, none⟩ (.int .i64 (1 + d % 4))) ⟨(w.heap.size + 1), 2, none⟩ = false := ((HZ.out.other 2 (.int .i64 (1 + c % 6)) hne1).other 3 (.int .i64 (1 + d % 4)) hne1).frozen 2
          have zf3 : World.frozen? (World.setCell (World.setCell W ⟨w.heap.size + 1 + 1, 2, none⟩ (.int .i64 (1 + c % 6))) ⟨w.heap.size + 1 + 1, 3, none⟩ (.int .i64 (1 + d % 4))) ⟨(w.heap.size + 1), 3, none⟩ = false := ((HZ.out.other 2 (.int .i64 (1 + c % 6)) hne1).other 3 (.int .i64 (1 + d % 4)) hne1).frozen 3
          have zf4 : World.frozen? (World.setCell (World.setCell W ⟨w.heap.size + 1 + 1, 2, none⟩ (.int .i64 (1 + c % 6))) ⟨w.heap.size + 1 + 1, 3, none⟩ (.int .i64 (1 + d % 4))) ⟨(w.heap.size + 1), 4, none⟩ = false := ((HZ.out.other 2 (.int .i64 (1 + c % 6)) hne1).other 3 (.int .i64 (1 + d % 4)) hne1).frozen 4
          have HZ3 := Aside0.mk ((HZ.out.other 2 (.int .i64 (1 + c % 6)) hne1).other 3 (.int .i64 (1 + d % 4)) hne1)
          have HB3 := Aside0.mk ((HBW.out.setCell (p := ⟨w.heap.size + 1 + 1, 2, none⟩) (by show w.heap.size ≤ w.heap.size + 1 + 1; omega) (.int .i64 (1 + c % 6))).setCell (p := ⟨w.heap.size + 1 + 1, 3, none⟩) (by show w.heap.size ≤ w.heap.size + 1 + 1; omega) (.int .i64 (1 + d % 4)))
          clear hne1 hne2
          go_wp2_with (first | (go_at_call 32; (with_reducible refine (bring_c c 6 _ HCC.out (by decide) (by decide)).mono ?_); rintro e w_q ⟨rfl, rfl⟩; skip) | (go_at_call 32; (with_reducible refine (bring_c d 4 _ HDD.out (by decide) (by decide)).mono ?_); rintro e w_q ⟨rfl, rfl⟩; skip))
          refine bodyPost_ret (results_cell_row rfl _ _ (w.heap.size + 1) 42 _ (0, 0) _ rfl (HZ3.out.put5 rfl _ _ _ _ _) Try.underlying42 rfl (by kernel_rfl)) rfl ?_
          exact ⟨by rw [E1.out, E2.out, madC, madD, if_neg E3.out, if_neg E3.out], below5 HB3.out (Nat.le_succ _) _ _ _ _ _⟩
      · refine value_ (v := ?_) (w1 := ?_) (by rfl) rfl ?_ ?_
        rotate_left 2
        · go_simp
          first | (with_reducible rfl) | (refine ⟨?_, ?_⟩ <;> with_reducible rfl)
        refine hK.out _ _ (by first | exact ⟨HD.out.cell 0, HD.out.cell 1, HD.out.cell 4⟩ | exact ⟨(HD.out.alloc _).cell 0, (HD.out.alloc _).cell 1, (HD.out.alloc _).cell 4⟩) (fun hHeld => ?_)
        clear hK K
        refine norm_ (a' := ?_) ?_ ?_
        rotate_left
        · show Act.put _ (some 3) _ = _
          simp only [Act.put, List.setIfInBounds_toArray, List.set_cons_zero, List.set_cons_succ, i64_w, i32_w]
          rfl
        refine one_ (i := 10) (N := some 14) #[true, true, true, true, true, true, true, true, true, true, true, false, true, false] rfl rfl (one_of HT_.out (by kernel_rfl)) (by decide) (fun K hK => ?_)
        refine goes_ Try.func32 (by kernel_rfl) rfl #[(.int .i64 n), (.int .i64 65536)] (by rfl) rfl rfl (by (try simp only [List.map_toArray, List.map_cons, List.map_nil]); first | done | rfl) ?_
        with_reducible refine (bring_c n 65536 _ HNN.out (by decide) (by decide)).mono ?_
        rintro e w_32 ⟨rfl, rfl⟩
        refine ⟨_, rfl, ?_⟩
        refine hK.out _ _ (by first | exact ⟨HD.out.cell 0, HD.out.cell 1, HD.out.cell 4⟩ | exact ⟨(HD.out.alloc _).cell 0, (HD.out.alloc _).cell 1, (HD.out.alloc _).cell 4⟩) (fun hHeld => ?_)
        clear hK K
        refine norm_ (a' := ?_) ?_ ?_
        rotate_left
        · show Act.put _ (some 14) _ = _
          simp only [Act.put, List.setIfInBounds_toArray, List.set_cons_zero, List.set_cons_succ, i64_w, i32_w]
          rfl
        refine pure_ (i := 11) (N := some 15) (v := ?_) (a' := ?_) #[true, true, true, true, true, true, true, true, true, true, true, true, true, false] rfl rfl (any_of HT_.out (by kernel_rfl)) (fun _ _ _ h => h) (Or.inl ⟨by rfl, ?_⟩) ?_ ?_
        rotate_left
        · intro w'
          go_simp
          with_reducible rfl
        rotate_left
        · simp only [Act.put, List.setIfInBounds_toArray, List.set_cons_zero, List.set_cons_succ, i64_w, i32_w]
          rfl
        refine last_ (i := 13) (N := none) #[true, true, true, true, true, true, true, true, true, true, true, true, true, true] rfl rfl (one_of HT_.out (by kernel_rfl)) (by decide) (fun K hK => ?_)
        refine skip_ (w1 := ?_) (by rfl) rfl ?_ ?_
        rotate_left
        · go_simp
          with_reducible rfl
        refine hK.out _ _ ?_
        clear hK K
        refine done_ (done_of HT_.out (by kernel_rfl)) ?_
        generalize e1 : wrap64 (1 + a % 6) = m1
        generalize e2 : wrap64 (1 + b % 4) = m2
        generalize hW : World.drew (World.alloc (World.alloc (World.alloc w (.cells #[.int .i64 a, .int .i64 b, .int .i64 c, .int .i64 d, .int .i64 n] 42)) (.cells #[.int .i64 0, .int .i64 0, .int .i64 0, .int .i64 0, .int .i64 0] 42)) (.cells #[.int .i64 m1, .int .i64 m2, .int .i64 0, .int .i64 0, .int .i64 (n % 65536)] 42)) = W
        have HP := Aside0.mk (show Bk W w.heap.size #[.int .i64 a, .int .i64 b, .int .i64 c, .int .i64 d, .int .i64 n] 42 from hW ▸ ((HD.out.alloc _).drew))
        have HZ := Aside0.mk (show Bk W (w.heap.size + 1) #[.int .i64 0, .int .i64 0, .int .i64 0, .int .i64 0, .int .i64 0] 42 from hW ▸ (((made_two w #[.int .i64 a, .int .i64 b, .int .i64 c, .int .i64 d, .int .i64 n] #[.int .i64 0, .int .i64 0, .int .i64 0, .int .i64 0, .int .i64 0]).alloc _).drew))
        have HM := Aside0.mk (show Bk W (w.heap.size + 1 + 1) #[.int .i64 m1, .int .i64 m2, .int .i64 0, .int .i64 0, .int .i64 (n % 65536)] 42 from hW ▸ ((made_three w #[.int .i64 a, .int .i64 b, .int .i64 c, .int .i64 d, .int .i64 n] #[.int .i64 0, .int .i64 0, .int .i64 0, .int .i64 0, .int .i64 0] #[.int .i64 m1, .int .i64 m2, .int .i64 0, .int .i64 0, .int .i64 (n % 65536)]).drew))
        have HBW := Aside0.mk (show Below w.heap.size w W from hW ▸ below_drew (below_alloc (below_alloc (below_alloc HB.out _) _) _))
        have E1 := Aside0.mk (show m1 = 1 + a % 6 by rw [← e1]; exact wrap_small a 6 (by omega) (by omega))
        have E2 := Aside0.mk (show m2 = 1 + b % 4 by rw [← e2]; exact wrap_small b 4 (by omega) (by omega))
        clear hW e1 e2 HB HD hHeld HT_ HW_
        have hpc2 : World.cell? W ⟨w.heap.size, 2, none⟩ = some (Value.int .i64 c) := HP.out.cell 2
        by_cases h2 : c % 2 = 0
        · have ht : c.tmod 2 = 0 := by have := Int.tmod_def c 2; rw [Int.tmod_eq_emod]; split <;> omega
          have E3 := Aside0.mk h2
          clear h2
          have mc0 : World.cell? W ⟨(w.heap.size + 1 + 1), 0, none⟩ = some (Value.int .i64 m1) := (HM.out).cell 0
          have mc1 : World.cell? W ⟨(w.heap.size + 1 + 1), 1, none⟩ = some (Value.int .i64 m2) := (HM.out).cell 1
          have mc2 : World.cell? W ⟨(w.heap.size + 1 + 1), 2, none⟩ = some (Value.int .i64 0) := (HM.out).cell 2
          have mc3 : World.cell? W ⟨(w.heap.size + 1 + 1), 3, none⟩ = some (Value.int .i64 0) := (HM.out).cell 3
          have mc4 : World.cell? W ⟨(w.heap.size + 1 + 1), 4, none⟩ = some (Value.int .i64 (n % 65536)) := (HM.out).cell 4
          have zc0 : World.cell? W ⟨(w.heap.size + 1), 0, none⟩ = some (Value.int .i64 0) := (HZ.out).cell 0
          have zc1 : World.cell? W ⟨(w.heap.size + 1), 1, none⟩ = some (Value.int .i64 0) := (HZ.out).cell 1
          have zc2 : World.cell? W ⟨(w.heap.size + 1), 2, none⟩ = some (Value.int .i64 0) := (HZ.out).cell 2
          have zc3 : World.cell? W ⟨(w.heap.size + 1), 3, none⟩ = some (Value.int .i64 0) := (HZ.out).cell 3
          have zc4 : World.cell? W ⟨(w.heap.size + 1), 4, none⟩ = some (Value.int .i64 0) := (HZ.out).cell 4
          have zf0 : World.frozen? W ⟨(w.heap.size + 1), 0, none⟩ = false := (HZ.out).frozen 0
          have zf1 : World.frozen? W ⟨(w.heap.size + 1), 1, none⟩ = false := (HZ.out).frozen 1
          have zf2 : World.frozen? W ⟨(w.heap.size + 1), 2, none⟩ = false := (HZ.out).frozen 2
          have zf3 : World.frozen? W ⟨(w.heap.size + 1), 3, none⟩ = false := (HZ.out).frozen 3
          have zf4 : World.frozen? W ⟨(w.heap.size + 1), 4, none⟩ = false := (HZ.out).frozen 4
          go_wp2
          refine bodyPost_ret (results_cell_row rfl _ _ (w.heap.size + 1) 42 _ (0, 0) _ rfl (HZ.out.put5 rfl _ _ _ _ _) Try.underlying42 rfl (by kernel_rfl)) rfl ?_
          exact ⟨by rw [E1.out, E2.out, madC, madD, if_pos E3.out, if_pos E3.out], below5 HBW.out (Nat.le_succ _) _ _ _ _ _⟩
        · obtain ⟨r, ht⟩ : ∃ r, c.tmod 2 = r := ⟨_, rfl⟩
          have hr : r ≠ 0 := by intro h; have := Int.tmod_def c 2; rw [Int.tmod_eq_emod] at ht; split at ht <;> omega
          have z0 : (r == 0) = false := by simp [hr]
          have z1 : (r != 0) = true := by simp [hr]
          have E3 := Aside0.mk h2
          clear h2 hr
          have hne1 : w.heap.size + 1 ≠ w.heap.size + 1 + 1 := by omega
          have hne2 : w.heap.size ≠ w.heap.size + 1 + 1 := by omega
          have mc2 : World.cell? W ⟨(w.heap.size + 1 + 1), 2, none⟩ = some (Value.int .i64 0) := (HM.out).cell 2
          have mf2 : World.frozen? W ⟨(w.heap.size + 1 + 1), 2, none⟩ = false := (HM.out).frozen 2
          have pc3 : World.cell? (World.setCell W ⟨w.heap.size + 1 + 1, 2, none⟩ (.int .i64 (1 + c % 6))) ⟨w.heap.size, 3, none⟩ = some (Value.int .i64 d) := (HP.out.other 2 (.int .i64 (1 + c % 6)) hne2).cell 3
          have nc3 : World.cell? (World.setCell W ⟨w.heap.size + 1 + 1, 2, none⟩ (.int .i64 (1 + c % 6))) ⟨(w.heap.size + 1 + 1), 3, none⟩ = some (Value.int .i64 0) := (HM.out.put 2 (.int .i64 (1 + c % 6))).cell 3
          have nf3 : World.frozen? (World.setCell W ⟨w.heap.size + 1 + 1, 2, none⟩ (.int .i64 (1 + c % 6))) ⟨(w.heap.size + 1 + 1), 3, none⟩ = false := (HM.out.put 2 (.int .i64 (1 + c % 6))).frozen 3
          have qc0 : World.cell? (World.setCell (World.setCell W ⟨w.heap.size + 1 + 1, 2, none⟩ (.int .i64 (1 + c % 6))) ⟨w.heap.size + 1 + 1, 3, none⟩ (.int .i64 (1 + d % 4))) ⟨(w.heap.size + 1 + 1), 0, none⟩ = some (Value.int .i64 m1) := ((HM.out.put 2 (.int .i64 (1 + c % 6))).put 3 (.int .i64 (1 + d % 4))).cell 0
          have qc1 : World.cell? (World.setCell (World.setCell W ⟨w.heap.size + 1 + 1, 2, none⟩ (.int .i64 (1 + c % 6))) ⟨w.heap.size + 1 + 1, 3, none⟩ (.int .i64 (1 + d % 4))) ⟨(w.heap.size + 1 + 1), 1, none⟩ = some (Value.int .i64 m2) := ((HM.out.put 2 (.int .i64 (1 + c % 6))).put 3 (.int .i64 (1 + d % 4))).cell 1
          have qc2 : World.cell? (World.setCell (World.setCell W ⟨w.heap.size + 1 + 1, 2, none⟩ (.int .i64 (1 + c % 6))) ⟨w.heap.size + 1 + 1, 3, none⟩ (.int .i64 (1 + d % 4))) ⟨(w.heap.size + 1 + 1), 2, none⟩ = some (Value.int .i64 (1 + c % 6)) := ((HM.out.put 2 (.int .i64 (1 + c % 6))).put 3 (.int .i64 (1 + d % 4))).cell 2
          have qc3 : World.cell? (World.setCell (World.setCell W ⟨w.heap.size + 1 + 1, 2, none⟩ (.int .i64 (1 + c % 6))) ⟨w.heap.size + 1 + 1, 3, none⟩ (.int .i64 (1 + d % 4))) ⟨(w.heap.size + 1 + 1), 3, none⟩ = some (Value.int .i64 (1 + d % 4)) := ((HM.out.put 2 (.int .i64 (1 + c % 6))).put 3 (.int .i64 (1 + d % 4))).cell 3
          have qc4 : World.cell? (World.setCell (World.setCell W ⟨w.heap.size + 1 + 1, 2, none⟩ (.int .i64 (1 + c % 6))) ⟨w.heap.size + 1 + 1, 3, none⟩ (.int .i64 (1 + d % 4))) ⟨(w.heap.size + 1 + 1), 4, none⟩ = some (Value.int .i64 (n % 65536)) := ((HM.out.put 2 (.int .i64 (1 + c % 6))).put 3 (.int .i64 (1 + d % 4))).cell 4
          have zc0 : World.cell? (World.setCell (World.setCell W ⟨w.heap.size + 1 + 1, 2, none⟩ (.int .i64 (1 + c % 6))) ⟨w.heap.size + 1 + 1, 3, none⟩ (.int .i64 (1 + d % 4))) ⟨(w.heap.size + 1), 0, none⟩ = some (Value.int .i64 0) := ((HZ.out.other 2 (.int .i64 (1 + c % 6)) hne1).other 3 (.int .i64 (1 + d % 4)) hne1).cell 0
          have zc1 : World.cell? (World.setCell (World.setCell W ⟨w.heap.size + 1 + 1, 2, none⟩ (.int .i64 (1 + c % 6))) ⟨w.heap.size + 1 + 1, 3, none⟩ (.int .i64 (1 + d % 4))) ⟨(w.heap.size + 1), 1, none⟩ = some (Value.int .i64 0) := ((HZ.out.other 2 (.int .i64 (1 + c % 6)) hne1).other 3 (.int .i64 (1 + d % 4)) hne1).cell 1
          have zc2 : World.cell? (World.setCell (World.setCell W ⟨w.heap.size + 1 + 1, 2, none⟩ (.int .i64 (1 + c % 6))) ⟨w.heap.size + 1 + 1, 3, none⟩ (.int .i64 (1 + d % 4))) ⟨(w.heap.size + 1), 2, none⟩ = some (Value.int .i64 0) := ((HZ.out.other 2 (.int .i64 (1 + c % 6)) hne1).other 3 (.int .i64 (1 + d % 4)) hne1).cell 2
          have zc3 : World.cell? (World.setCell (World.setCell W ⟨w.heap.size + 1 + 1, 2, none⟩ (.int .i64 (1 + c % 6))) ⟨w.heap.size + 1 + 1, 3, none⟩ (.int .i64 (1 + d % 4))) ⟨(w.heap.size + 1), 3, none⟩ = some (Value.int .i64 0) := ((HZ.out.other 2 (.int .i64 (1 + c % 6)) hne1).other 3 (.int .i64 (1 + d % 4)) hne1).cell 3
          have zc4 : World.cell? (World.setCell (World.setCell W ⟨w.heap.size + 1 + 1, 2, none⟩ (.int .i64 (1 + c % 6))) ⟨w.heap.size + 1 + 1, 3, none⟩ (.int .i64 (1 + d % 4))) ⟨(w.heap.size + 1), 4, none⟩ = some (Value.int .i64 0) := ((HZ.out.other 2 (.int .i64 (1 + c % 6)) hne1).other 3 (.int .i64 (1 + d % 4)) hne1).cell 4
          have zf0 : World.frozen? (World.setCell (World.setCell W ⟨w.heap.size + 1 + 1, 2, none⟩ (.int .i64 (1 + c % 6))) ⟨w.heap.size + 1 + 1, 3, none⟩ (.int .i64 (1 + d % 4))) ⟨(w.heap.size + 1), 0, none⟩ = false := ((HZ.out.other 2 (.int .i64 (1 + c % 6)) hne1).other 3 (.int .i64 (1 + d % 4)) hne1).frozen 0
          have zf1 : World.frozen? (World.setCell (World.setCell W ⟨w.heap.size + 1 + 1, 2, none⟩ (.int .i64 (1 + c % 6))) ⟨w.heap.size + 1 + 1, 3, none⟩ (.int .i64 (1 + d % 4))) ⟨(w.heap.size + 1), 1, none⟩ = false := ((HZ.out.other 2 (.int .i64 (1 + c % 6)) hne1).other 3 (.int .i64 (1 + d % 4)) hne1).frozen 1
          have zf2 : World.frozen? (World.setCell (World.setCell W ⟨w.heap.size + 1 + 1, 2, none⟩ (.int .i64 (1 + c % 6))) ⟨w.heap.size + 1 + 1, 3, none⟩ (.int .i64 (1 + d % 4))) ⟨(w.heap.size + 1), 2, none⟩ = false := ((HZ.out.other 2 (.int .i64 (1 + c % 6)) hne1).other 3 (.int .i64 (1 + d % 4)) hne1).frozen 2
          have zf3 : World.frozen? (World.setCell (World.setCell W ⟨w.heap.size + 1 + 1, 2, none⟩ (.int .i64 (1 + c % 6))) ⟨w.heap.size + 1 + 1, 3, none⟩ (.int .i64 (1 + d % 4))) ⟨(w.heap.size + 1), 3, none⟩ = false := ((HZ.out.other 2 (.int .i64 (1 + c % 6)) hne1).other 3 (.int .i64 (1 + d % 4)) hne1).frozen 3
          have zf4 : World.frozen? (World.setCell (World.setCell W ⟨w.heap.size + 1 + 1, 2, none⟩ (.int .i64 (1 + c % 6))) ⟨w.heap.size + 1 + 1, 3, none⟩ (.int .i64 (1 + d % 4))) ⟨(w.heap.size + 1), 4, none⟩ = false := ((HZ.out.other 2 (.int .i64 (1 + c % 6)) hne1).other 3 (.int .i64 (1 + d % 4)) hne1).frozen 4
          have HZ3 := Aside0.mk ((HZ.out.other 2 (.int .i64 (1 + c % 6)) hne1).other 3 (.int .i64 (1 + d % 4)) hne1)
          have HB3 := Aside0.mk ((HBW.out.setCell (p := ⟨w.heap.size + 1 + 1, 2, none⟩) (by show w.heap.size ≤ w.heap.size + 1 + 1; omega) (.int .i64 (1 + c % 6))).setCell (p := ⟨w.heap.size + 1 + 1, 3, none⟩) (by show w.heap.size ≤ w.heap.size + 1 + 1; omega) (.int .i64 (1 + d % 4)))
          clear hne1 hne2
          go_wp2_with (first | (go_at_call 32; (with_reducible refine (bring_c c 6 _ HCC.out (by decide) (by decide)).mono ?_); rintro e w_q ⟨rfl, rfl⟩; skip) | (go_at_call 32; (with_reducible refine (bring_c d 4 _ HDD.out (by decide) (by decide)).mono ?_); rintro e w_q ⟨rfl, rfl⟩; skip))
          refine bodyPost_ret (results_cell_row rfl _ _ (w.heap.size + 1) 42 _ (0, 0) _ rfl (HZ3.out.put5 rfl _ _ _ _ _) Try.underlying42 rfl (by kernel_rfl)) rfl ?_
          exact ⟨by rw [E1.out, E2.out, madC, madD, if_neg E3.out, if_neg E3.out], below5 HB3.out (Nat.le_succ _) _ _ _ _ _⟩
    · refine value_ (v := ?_) (w1 := ?_) (by rfl) rfl ?_ ?_
      rotate_left 2
      · go_simp
        first | (with_reducible rfl) | (refine ⟨?_, ?_⟩ <;> with_reducible rfl)
      refine hK.out _ _ (by first | exact ⟨HD.out.cell 0, HD.out.cell 1, HD.out.cell 4⟩ | exact ⟨(HD.out.alloc _).cell 0, (HD.out.alloc _).cell 1, (HD.out.alloc _).cell 4⟩) (fun hHeld => ?_)
      clear hK K
      refine norm_ (a' := ?_) ?_ ?_
      rotate_left
      · show Act.put _ (some 3) _ = _
        simp only [Act.put, List.setIfInBounds_toArray, List.set_cons_zero, List.set_cons_succ, i64_w, i32_w]
        rfl
      refine one_ (i := 6) (N := some 10) #[true, true, true, true, true, true, true, false, true, true, false, false, true, false] rfl rfl (one_of HT_.out (by kernel_rfl)) (by decide) (fun K hK => ?_)
      refine goes_ Try.func32 (by kernel_rfl) rfl #[(.int .i64 b), (.int .i64 4)] (by rfl) rfl rfl (by (try simp only [List.map_toArray, List.map_cons, List.map_nil]); first | done | rfl) ?_
      with_reducible refine (bring_c b 4 _ HBB.out (by decide) (by decide)).mono ?_
      rintro e w_32 ⟨rfl, rfl⟩
      refine ⟨_, rfl, ?_⟩
      refine hK.out _ _ (by first | exact ⟨HD.out.cell 0, HD.out.cell 1, HD.out.cell 4⟩ | exact ⟨(HD.out.alloc _).cell 0, (HD.out.alloc _).cell 1, (HD.out.alloc _).cell 4⟩) (fun hHeld => ?_)
      clear hK K
      refine norm_ (a' := ?_) ?_ ?_
      rotate_left
      · show Act.put _ (some 10) _ = _
        simp only [Act.put, List.setIfInBounds_toArray, List.set_cons_zero, List.set_cons_succ, i64_w, i32_w]
        rfl
      refine pure_ (i := 7) (N := some 11) (v := ?_) (a' := ?_) #[true, true, true, true, true, true, true, true, true, true, false, false, true, false] rfl rfl (any_of HT_.out (by kernel_rfl)) (fun _ _ _ h => h) (Or.inl ⟨by rfl, ?_⟩) ?_ ?_
      rotate_left
      · intro w'
        go_simp
        with_reducible rfl
      rotate_left
      · simp only [Act.put, List.setIfInBounds_toArray, List.set_cons_zero, List.set_cons_succ, i64_w, i32_w]
        rfl
      refine one_ (i := 10) (N := some 14) #[true, true, true, true, true, true, true, true, true, true, true, false, true, false] rfl rfl (one_of HT_.out (by kernel_rfl)) (by decide) (fun K hK => ?_)
      refine goes_ Try.func32 (by kernel_rfl) rfl #[(.int .i64 n), (.int .i64 65536)] (by rfl) rfl rfl (by (try simp only [List.map_toArray, List.map_cons, List.map_nil]); first | done | rfl) ?_
      with_reducible refine (bring_c n 65536 _ HNN.out (by decide) (by decide)).mono ?_
      rintro e w_32 ⟨rfl, rfl⟩
      refine ⟨_, rfl, ?_⟩
      refine hK.out _ _ (by first | exact ⟨HD.out.cell 0, HD.out.cell 1, HD.out.cell 4⟩ | exact ⟨(HD.out.alloc _).cell 0, (HD.out.alloc _).cell 1, (HD.out.alloc _).cell 4⟩) (fun hHeld => ?_)
      clear hK K
      refine norm_ (a' := ?_) ?_ ?_
      rotate_left
      · show Act.put _ (some 14) _ = _
        simp only [Act.put, List.setIfInBounds_toArray, List.set_cons_zero, List.set_cons_succ, i64_w, i32_w]
        rfl
      refine pure_ (i := 11) (N := some 15) (v := ?_) (a' := ?_) #[true, true, true, true, true, true, true, true, true, true, true, true, true, false] rfl rfl (any_of HT_.out (by kernel_rfl)) (fun _ _ _ h => h) (Or.inl ⟨by rfl, ?_⟩) ?_ ?_
      rotate_left
      · intro w'
        go_simp
        with_reducible rfl
      rotate_left
      · simp only [Act.put, List.setIfInBounds_toArray, List.set_cons_zero, List.set_cons_succ, i64_w, i32_w]
        rfl
      refine last_ (i := 13) (N := none) #[true, true, true, true, true, true, true, true, true, true, true, true, true, true] rfl rfl (one_of HT_.out (by kernel_rfl)) (by decide) (fun K hK => ?_)
      refine skip_ (w1 := ?_) (by rfl) rfl ?_ ?_
      rotate_left
      · go_simp
        with_reducible rfl
      refine hK.out _ _ ?_
      clear hK K
      refine done_ (done_of HT_.out (by kernel_rfl)) ?_
      generalize e1 : wrap64 (1 + a % 6) = m1
      generalize e2 : wrap64 (1 + b % 4) = m2
      generalize hW : World.drew (World.alloc (World.alloc (World.alloc w (.cells #[.int .i64 a, .int .i64 b, .int .i64 c, .int .i64 d, .int .i64 n] 42)) (.cells #[.int .i64 0, .int .i64 0, .int .i64 0, .int .i64 0, .int .i64 0] 42)) (.cells #[.int .i64 m1, .int .i64 m2, .int .i64 0, .int .i64 0, .int .i64 (n % 65536)] 42)) = W
      have HP := Aside0.mk (show Bk W w.heap.size #[.int .i64 a, .int .i64 b, .int .i64 c, .int .i64 d, .int .i64 n] 42 from hW ▸ ((HD.out.alloc _).drew))
      have HZ := Aside0.mk (show Bk W (w.heap.size + 1) #[.int .i64 0, .int .i64 0, .int .i64 0, .int .i64 0, .int .i64 0] 42 from hW ▸ (((made_two w #[.int .i64 a, .int .i64 b, .int .i64 c, .int .i64 d, .int .i64 n] #[.int .i64 0, .int .i64 0, .int .i64 0, .int .i64 0, .int .i64 0]).alloc _).drew))
      have HM := Aside0.mk (show Bk W (w.heap.size + 1 + 1) #[.int .i64 m1, .int .i64 m2, .int .i64 0, .int .i64 0, .int .i64 (n % 65536)] 42 from hW ▸ ((made_three w #[.int .i64 a, .int .i64 b, .int .i64 c, .int .i64 d, .int .i64 n] #[.int .i64 0, .int .i64 0, .int .i64 0, .int .i64 0, .int .i64 0] #[.int .i64 m1, .int .i64 m2, .int .i64 0, .int .i64 0, .int .i64 (n % 65536)]).drew))
      have HBW := Aside0.mk (show Below w.heap.size w W from hW ▸ below_drew (below_alloc (below_alloc (below_alloc HB.out _) _) _))
      have E1 := Aside0.mk (show m1 = 1 + a % 6 by rw [← e1]; exact wrap_small a 6 (by omega) (by omega))
      have E2 := Aside0.mk (show m2 = 1 + b % 4 by rw [← e2]; exact wrap_small b 4 (by omega) (by omega))
      clear hW e1 e2 HB HD hHeld HT_ HW_
      have hpc2 : World.cell? W ⟨w.heap.size, 2, none⟩ = some (Value.int .i64 c) := HP.out.cell 2
      by_cases h2 : c % 2 = 0
      · have ht : c.tmod 2 = 0 := by have := Int.tmod_def c 2; rw [Int.tmod_eq_emod]; split <;> omega
        have E3 := Aside0.mk h2
        clear h2
        have mc0 : World.cell? W ⟨(w.heap.size + 1 + 1), 0, none⟩ = some (Value.int .i64 m1) := (HM.out).cell 0
        have mc1 : World.cell? W ⟨(w.heap.size + 1 + 1), 1, none⟩ = some (Value.int .i64 m2) := (HM.out).cell 1
        have mc2 : World.cell? W ⟨(w.heap.size + 1 + 1), 2, none⟩ = some (Value.int .i64 0) := (HM.out).cell 2
        have mc3 : World.cell? W ⟨(w.heap.size + 1 + 1), 3, none⟩ = some (Value.int .i64 0) := (HM.out).cell 3
        have mc4 : World.cell? W ⟨(w.heap.size + 1 + 1), 4, none⟩ = some (Value.int .i64 (n % 65536)) := (HM.out).cell 4
        have zc0 : World.cell? W ⟨(w.heap.size + 1), 0, none⟩ = some (Value.int .i64 0) := (HZ.out).cell 0
        have zc1 : World.cell? W ⟨(w.heap.size + 1), 1, none⟩ = some (Value.int .i64 0) := (HZ.out).cell 1
        have zc2 : World.cell? W ⟨(w.heap.size + 1), 2, none⟩ = some (Value.int .i64 0) := (HZ.out).cell 2
        have zc3 : World.cell? W ⟨(w.heap.size + 1), 3, none⟩ = some (Value.int .i64 0) := (HZ.out).cell 3
        have zc4 : World.cell? W ⟨(w.heap.size + 1), 4, none⟩ = some (Value.int .i64 0) := (HZ.out).cell 4
        have zf0 : World.frozen? W ⟨(w.heap.size + 1), 0, none⟩ = false := (HZ.out).frozen 0
        have zf1 : World.frozen? W ⟨(w.heap.size + 1), 1, none⟩ = false := (HZ.out).frozen 1
        have zf2 : World.frozen? W ⟨(w.heap.size + 1), 2, none⟩ = false := (HZ.out).frozen 2
        have zf3 : World.frozen? W ⟨(w.heap.size + 1), 3, none⟩ = false := (HZ.out).frozen 3
        have zf4 : World.frozen? W ⟨(w.heap.size + 1), 4, none⟩ = false := (HZ.out).frozen 4
        go_wp2
        refine bodyPost_ret (results_cell_row rfl _ _ (w.heap.size + 1) 42 _ (0, 0) _ rfl (HZ.out.put5 rfl _ _ _ _ _) Try.underlying42 rfl (by kernel_rfl)) rfl ?_
        exact ⟨by rw [E1.out, E2.out, madC, madD, if_pos E3.out, if_pos E3.out], below5 HBW.out (Nat.le_succ _) _ _ _ _ _⟩
      · obtain ⟨r, ht⟩ : ∃ r, c.tmod 2 = r := ⟨_, rfl⟩
        have hr : r ≠ 0 := by intro h; have := Int.tmod_def c 2; rw [Int.tmod_eq_emod] at ht; split at ht <;> omega
        have z0 : (r == 0) = false := by simp [hr]
        have z1 : (r != 0) = true := by simp [hr]
        have E3 := Aside0.mk h2
        clear h2 hr
        have hne1 : w.heap.size + 1 ≠ w.heap.size + 1 + 1 := by omega
        have hne2 : w.heap.size ≠ w.heap.size + 1 + 1 := by omega
        have mc2 : World.cell? W ⟨(w.heap.size + 1 + 1), 2, none⟩ = some (Value.int .i64 0) := (HM.out).cell 2
        have mf2 : World.frozen? W ⟨(w.heap.size + 1 + 1), 2, none⟩ = false := (HM.out).frozen 2
        have pc3 : World.cell? (World.setCell W ⟨w.heap.size + 1 + 1, 2, none⟩ (.int .i64 (1 + c % 6))) ⟨w.heap.size, 3, none⟩ = some (Value.int .i64 d) := (HP.out.other 2 (.int .i64 (1 + c % 6)) hne2).cell 3
        have nc3 : World.cell? (World.setCell W ⟨w.heap.size + 1 + 1, 2, none⟩ (.int .i64 (1 + c % 6))) ⟨(w.heap.size + 1 + 1), 3, none⟩ = some (Value.int .i64 0) := (HM.out.put 2 (.int .i64 (1 + c % 6))).cell 3
        have nf3 : World.frozen? (World.setCell W ⟨w.heap.size + 1 + 1, 2, none⟩ (.int .i64 (1 + c % 6))) ⟨(w.heap.size + 1 + 1), 3, none⟩ = false := (HM.out.put 2 (.int .i64 (1 + c % 6))).frozen 3
        have qc0 : World.cell? (World.setCell (World.setCell W ⟨w.heap.size + 1 + 1, 2, none⟩ (.int .i64 (1 + c % 6))) ⟨w.heap.size + 1 + 1, 3, none⟩ (.int .i64 (1 + d % 4))) ⟨(w.heap.size + 1 + 1), 0, none⟩ = some (Value.int .i64 m1) := ((HM.out.put 2 (.int .i64 (1 + c % 6))).put 3 (.int .i64 (1 + d % 4))).cell 0
        have qc1 : World.cell? (World.setCell (World.setCell W ⟨w.heap.size + 1 + 1, 2, none⟩ (.int .i64 (1 + c % 6))) ⟨w.heap.size + 1 + 1, 3, none⟩ (.int .i64 (1 + d % 4))) ⟨(w.heap.size + 1 + 1), 1, none⟩ = some (Value.int .i64 m2) := ((HM.out.put 2 (.int .i64 (1 + c % 6))).put 3 (.int .i64 (1 + d % 4))).cell 1
        have qc2 : World.cell? (World.setCell (World.setCell W ⟨w.heap.size + 1 + 1, 2, none⟩ (.int .i64 (1 + c % 6))) ⟨w.heap.size + 1 + 1, 3, none⟩ (.int .i64 (1 + d % 4))) ⟨(w.heap.size + 1 + 1), 2, none⟩ = some (Value.int .i64 (1 + c % 6)) := ((HM.out.put 2 (.int .i64 (1 + c % 6))).put 3 (.int .i64 (1 + d % 4))).cell 2
        have qc3 : World.cell? (World.setCell (World.setCell W ⟨w.heap.size + 1 + 1, 2, none⟩ (.int .i64 (1 + c % 6))) ⟨w.heap.size + 1 + 1, 3, none⟩ (.int .i64 (1 + d % 4))) ⟨(w.heap.size + 1 + 1), 3, none⟩ = some (Value.int .i64 (1 + d % 4)) := ((HM.out.put 2 (.int .i64 (1 + c % 6))).put 3 (.int .i64 (1 + d % 4))).cell 3
        have qc4 : World.cell? (World.setCell (World.setCell W ⟨w.heap.size + 1 + 1, 2, none⟩ (.int .i64 (1 + c % 6))) ⟨w.heap.size + 1 + 1, 3, none⟩ (.int .i64 (1 + d % 4))) ⟨(w.heap.size + 1 + 1), 4, none⟩ = some (Value.int .i64 (n % 65536)) := ((HM.out.put 2 (.int .i64 (1 + c % 6))).put 3 (.int .i64 (1 + d % 4))).cell 4
        have zc0 : World.cell? (World.setCell (World.setCell W ⟨w.heap.size + 1 + 1, 2, none⟩ (.int .i64 (1 + c % 6))) ⟨w.heap.size + 1 + 1, 3, none⟩ (.int .i64 (1 + d % 4))) ⟨(w.heap.size + 1), 0, none⟩ = some (Value.int .i64 0) := ((HZ.out.other 2 (.int .i64 (1 + c % 6)) hne1).other 3 (.int .i64 (1 + d % 4)) hne1).cell 0
        have zc1 : World.cell? (World.setCell (World.setCell W ⟨w.heap.size + 1 + 1, 2, none⟩ (.int .i64 (1 + c % 6))) ⟨w.heap.size + 1 + 1, 3, none⟩ (.int .i64 (1 + d % 4))) ⟨(w.heap.size + 1), 1, none⟩ = some (Value.int .i64 0) := ((HZ.out.other 2 (.int .i64 (1 + c % 6)) hne1).other 3 (.int .i64 (1 + d % 4)) hne1).cell 1
        have zc2 : World.cell? (World.setCell (World.setCell W ⟨w.heap.size + 1 + 1, 2, none⟩ (.int .i64 (1 + c % 6))) ⟨w.heap.size + 1 + 1, 3, none⟩ (.int .i64 (1 + d % 4))) ⟨(w.heap.size + 1), 2, none⟩ = some (Value.int .i64 0) := ((HZ.out.other 2 (.int .i64 (1 + c % 6)) hne1).other 3 (.int .i64 (1 + d % 4)) hne1).cell 2
        have zc3 : World.cell? (World.setCell (World.setCell W ⟨w.heap.size + 1 + 1, 2, none⟩ (.int .i64 (1 + c % 6))) ⟨w.heap.size + 1 + 1, 3, none⟩ (.int .i64 (1 + d % 4))) ⟨(w.heap.size + 1), 3, none⟩ = some (Value.int .i64 0) := ((HZ.out.other 2 (.int .i64 (1 + c % 6)) hne1).other 3 (.int .i64 (1 + d % 4)) hne1).cell 3
        have zc4 : World.cell? (World.setCell (World.setCell W ⟨w.heap.size + 1 + 1, 2, none⟩ (.int .i64 (1 + c % 6))) ⟨w.heap.size + 1 + 1, 3, none⟩ (.int .i64 (1 + d % 4))) ⟨(w.heap.size + 1), 4, none⟩ = some (Value.int .i64 0) := ((HZ.out.other 2 (.int .i64 (1 + c % 6)) hne1).other 3 (.int .i64 (1 + d % 4)) hne1).cell 4
        have zf0 : World.frozen? (World.setCell (World.setCell W ⟨w.heap.size + 1 + 1, 2, none⟩ (.int .i64 (1 + c % 6))) ⟨w.heap.size + 1 + 1, 3, none⟩ (.int .i64 (1 + d % 4))) ⟨(w.heap.size + 1), 0, none⟩ = false := ((HZ.out.other 2 (.int .i64 (1 + c % 6)) hne1).other 3 (.int .i64 (1 + d % 4)) hne1).frozen 0
        have zf1 : World.frozen? (World.setCell (World.setCell W ⟨w.heap.size + 1 + 1, 2, none⟩ (.int .i64 (1 + c % 6))) ⟨w.heap.size + 1 + 1, 3, none⟩ (.int .i64 (1 + d % 4))) ⟨(w.heap.size + 1), 1, none⟩ = false := ((HZ.out.other 2 (.int .i64 (1 + c % 6)) hne1).other 3 (.int .i64 (1 + d % 4)) hne1).frozen 1
        have zf2 : World.frozen? (World.setCell (World.setCell W ⟨w.heap.size + 1 + 1, 2, none⟩ (.int .i64 (1 + c % 6))) ⟨w.heap.size + 1 + 1, 3, none⟩ (.int .i64 (1 + d % 4))) ⟨(w.heap.size + 1), 2, none⟩ = false := ((HZ.out.other 2 (.int .i64 (1 + c % 6)) hne1).other 3 (.int .i64 (1 + d % 4)) hne1).frozen 2
        have zf3 : World.frozen? (World.setCell (World.setCell W ⟨w.heap.size + 1 + 1, 2, none⟩ (.int .i64 (1 + c % 6))) ⟨w.heap.size + 1 + 1, 3, none⟩ (.int .i64 (1 + d % 4))) ⟨(w.heap.size + 1), 3, none⟩ = false := ((HZ.out.other 2 (.int .i64 (1 + c % 6)) hne1).other 3 (.int .i64 (1 + d % 4)) hne1).frozen 3
        have zf4 : World.frozen? (World.setCell (World.setCell W ⟨w.heap.size + 1 + 1, 2, none⟩ (.int .i64 (1 + c % 6))) ⟨w.heap.size + 1 + 1, 3, none⟩ (.int .i64 (1 + d % 4))) ⟨(w.heap.size + 1), 4, none⟩ = false := ((HZ.out.other 2 (.int .i64 (1 + c % 6)) hne1).other 3 (.int .i64 (1 + d % 4)) hne1).frozen 4
        have HZ3 := Aside0.mk ((HZ.out.other 2 (.int .i64 (1 + c % 6)) hne1).other 3 (.int .i64 (1 + d % 4)) hne1)
        have HB3 := Aside0.mk ((HBW.out.setCell (p := ⟨w.heap.size + 1 + 1, 2, none⟩) (by show w.heap.size ≤ w.heap.size + 1 + 1; omega) (.int .i64 (1 + c % 6))).setCell (p := ⟨w.heap.size + 1 + 1, 3, none⟩) (by show w.heap.size ≤ w.heap.size + 1 + 1; omega) (.int .i64 (1 + d % 4)))
        clear hne1 hne2
        go_wp2_with (first | (go_at_call 32; (with_reducible refine (bring_c c 6 _ HCC.out (by decide) (by decide)).mono ?_); rintro e w_q ⟨rfl, rfl⟩; skip) | (go_at_call 32; (with_reducible refine (bring_c d 4 _ HDD.out (by decide) (by decide)).mono ?_); rintro e w_q ⟨rfl, rfl⟩; skip))
        refine bodyPost_ret (results_cell_row rfl _ _ (w.heap.size + 1) 42 _ (0, 0) _ rfl (HZ3.out.put5 rfl _ _ _ _ _) Try.underlying42 rfl (by kernel_rfl)) rfl ?_
        exact ⟨by rw [E1.out, E2.out, madC, madD, if_neg E3.out, if_neg E3.out], below5 HB3.out (Nat.le_succ _) _ _ _ _ _⟩
  · refine value_ (v := ?_) (w1 := ?_) (by rfl) rfl ?_ ?_
    rotate_left 2
    · go_simp
      first | (with_reducible rfl) | (refine ⟨?_, ?_⟩ <;> with_reducible rfl)
    refine hK.out _ _ (by first | exact ⟨HD.out.cell 0, HD.out.cell 1, HD.out.cell 4⟩ | exact ⟨(HD.out.alloc _).cell 0, (HD.out.alloc _).cell 1, (HD.out.alloc _).cell 4⟩) (fun hHeld => ?_)
    clear hK K
    refine norm_ (a' := ?_) ?_ ?_
    rotate_left
    · show Act.put _ (some 3) _ = _
      simp only [Act.put, List.setIfInBounds_toArray, List.set_cons_zero, List.set_cons_succ, i64_w, i32_w]
      rfl
    refine one_ (i := 2) (N := some 6) #[true, true, true, false, true, true, false, false, true, true, false, false, true, false] rfl rfl (one_of HT_.out (by kernel_rfl)) (by decide) (fun K hK => ?_)
    refine goes_ Try.func32 (by kernel_rfl) rfl #[(.int .i64 a), (.int .i64 6)] (by rfl) rfl rfl (by (try simp only [List.map_toArray, List.map_cons, List.map_nil]); first | done | rfl) ?_
    with_reducible refine (bring_c a 6 _ HA.out (by decide) (by decide)).mono ?_
    rintro e w_32 ⟨rfl, rfl⟩
    refine ⟨_, rfl, ?_⟩
    refine hK.out _ _ (by first | exact ⟨HD.out.cell 0, HD.out.cell 1, HD.out.cell 4⟩ | exact ⟨(HD.out.alloc _).cell 0, (HD.out.alloc _).cell 1, (HD.out.alloc _).cell 4⟩) (fun hHeld => ?_)
    clear hK K
    refine norm_ (a' := ?_) ?_ ?_
    rotate_left
    · show Act.put _ (some 6) _ = _
      simp only [Act.put, List.setIfInBounds_toArray, List.set_cons_zero, List.set_cons_succ, i64_w, i32_w]
      rfl
    refine pure_ (i := 3) (N := some 7) (v := ?_) (a' := ?_) #[true, true, true, true, true, true, false, false, true, true, false, false, true, false] rfl rfl (any_of HT_.out (by kernel_rfl)) (fun _ _ _ h => h) (Or.inl ⟨by rfl, ?_⟩) ?_ ?_
    rotate_left
    · intro w'
      go_simp
      with_reducible rfl
    rotate_left
    · simp only [Act.put, List.setIfInBounds_toArray, List.set_cons_zero, List.set_cons_succ, i64_w, i32_w]
      rfl
    refine one_ (i := 6) (N := some 10) #[true, true, true, true, true, true, true, false, true, true, false, false, true, false] rfl rfl (one_of HT_.out (by kernel_rfl)) (by decide) (fun K hK => ?_)
    refine goes_ Try.func32 (by kernel_rfl) rfl #[(.int .i64 b), (.int .i64 4)] (by rfl) rfl rfl (by (try simp only [List.map_toArray, List.map_cons, List.map_nil]); first | done | rfl) ?_
    with_reducible refine (bring_c b 4 _ HBB.out (by decide) (by decide)).mono ?_
    rintro e w_32 ⟨rfl, rfl⟩
    refine ⟨_, rfl, ?_⟩
    refine hK.out _ _ (by first | exact ⟨HD.out.cell 0, HD.out.cell 1, HD.out.cell 4⟩ | exact ⟨(HD.out.alloc _).cell 0, (HD.out.alloc _).cell 1, (HD.out.alloc _).cell 4⟩) (fun hHeld => ?_)
    clear hK K
    refine norm_ (a' := ?_) ?_ ?_
    rotate_left
    · show Act.put _ (some 10) _ = _
      simp only [Act.put, List.setIfInBounds_toArray, List.set_cons_zero, List.set_cons_succ, i64_w, i32_w]
      rfl
    refine pure_ (i := 7) (N := some 11) (v := ?_) (a' := ?_) #[true, true, true, true, true, true, true, true, true, true, false, false, true, false] rfl rfl (any_of HT_.out (by kernel_rfl)) (fun _ _ _ h => h) (Or.inl ⟨by rfl, ?_⟩) ?_ ?_
    rotate_left
    · intro w'
      go_simp
      with_reducible rfl
    rotate_left
    · simp only [Act.put, List.setIfInBounds_toArray, List.set_cons_zero, List.set_cons_succ, i64_w, i32_w]
      rfl
    refine one_ (i := 10) (N := some 14) #[true, true, true, true, true, true, true, true, true, true, true, false, true, false] rfl rfl (one_of HT_.out (by kernel_rfl)) (by decide) (fun K hK => ?_)
    refine goes_ Try.func32 (by kernel_rfl) rfl #[(.int .i64 n), (.int .i64 65536)] (by rfl) rfl rfl (by (try simp only [List.map_toArray, List.map_cons, List.map_nil]); first | done | rfl) ?_
    with_reducible refine (bring_c n 65536 _ HNN.out (by decide) (by decide)).mono ?_
    rintro e w_32 ⟨rfl, rfl⟩
    refine ⟨_, rfl, ?_⟩
    refine hK.out _ _ (by first | exact ⟨HD.out.cell 0, HD.out.cell 1, HD.out.cell 4⟩ | exact ⟨(HD.out.alloc _).cell 0, (HD.out.alloc _).cell 1, (HD.out.alloc _).cell 4⟩) (fun hHeld => ?_)
    clear hK K
    refine norm_ (a' := ?_) ?_ ?_
    rotate_left
    · show Act.put _ (some 14) _ = _
      simp only [Act.put, List.setIfInBounds_toArray, List.set_cons_zero, List.set_cons_succ, i64_w, i32_w]
      rfl
    refine pure_ (i := 11) (N := some 15) (v := ?_) (a' := ?_) #[true, true, true, true, true, true, true, true, true, true, true, true, true, false] rfl rfl (any_of HT_.out (by kernel_rfl)) (fun _ _ _ h => h) (Or.inl ⟨by rfl, ?_⟩) ?_ ?_
    rotate_left
    · intro w'
      go_simp
      with_reducible rfl
    rotate_left
    · simp only [Act.put, List.setIfInBounds_toArray, List.set_cons_zero, List.set_cons_succ, i64_w, i32_w]
      rfl
    refine last_ (i := 13) (N := none) #[true, true, true, true, true, true, true, true, true, true, true, true, true, true] rfl rfl (one_of HT_.out (by kernel_rfl)) (by decide) (fun K hK => ?_)
    refine skip_ (w1 := ?_) (by rfl) rfl ?_ ?_
    rotate_left
    · go_simp
      with_reducible rfl
    refine hK.out _ _ ?_
    clear hK K
    refine done_ (done_of HT_.out (by kernel_rfl)) ?_
    generalize e1 : wrap64 (1 + a % 6) = m1
    generalize e2 : wrap64 (1 + b % 4) = m2
    generalize hW : World.drew (World.alloc (World.alloc (World.alloc w (.cells #[.int .i64 a, .int .i64 b, .int .i64 c, .int .i64 d, .int .i64 n] 42)) (.cells #[.int .i64 0, .int .i64 0, .int .i64 0, .int .i64 0, .int .i64 0] 42)) (.cells #[.int .i64 m1, .int .i64 m2, .int .i64 0, .int .i64 0, .int .i64 (n % 65536)] 42)) = W
    have HP := Aside0.mk (show Bk W w.heap.size #[.int .i64 a, .int .i64 b, .int .i64 c, .int .i64 d, .int .i64 n] 42 from hW ▸ ((HD.out.alloc _).drew))
    have HZ := Aside0.mk (show Bk W (w.heap.size + 1) #[.int .i64 0, .int .i64 0, .int .i64 0, .int .i64 0, .int .i64 0] 42 from hW ▸ (((made_two w #[.int .i64 a, .int .i64 b, .int .i64 c, .int .i64 d, .int .i64 n] #[.int .i64 0, .int .i64 0, .int .i64 0, .int .i64 0, .int .i64 0]).alloc _).drew))
    have HM := Aside0.mk (show Bk W (w.heap.size + 1 + 1) #[.int .i64 m1, .int .i64 m2, .int .i64 0, .int .i64 0, .int .i64 (n % 65536)] 42 from hW ▸ ((made_three w #[.int .i64 a, .int .i64 b, .int .i64 c, .int .i64 d, .int .i64 n] #[.int .i64 0, .int .i64 0, .int .i64 0, .int .i64 0, .int .i64 0] #[.int .i64 m1, .int .i64 m2, .int .i64 0, .int .i64 0, .int .i64 (n % 65536)]).drew))
    have HBW := Aside0.mk (show Below w.heap.size w W from hW ▸ below_drew (below_alloc (below_alloc (below_alloc HB.out _) _) _))
    have E1 := Aside0.mk (show m1 = 1 + a % 6 by rw [← e1]; exact wrap_small a 6 (by omega) (by omega))
    have E2 := Aside0.mk (show m2 = 1 + b % 4 by rw [← e2]; exact wrap_small b 4 (by omega) (by omega))
    clear hW e1 e2 HB HD hHeld HT_ HW_
    have hpc2 : World.cell? W ⟨w.heap.size, 2, none⟩ = some (Value.int .i64 c) := HP.out.cell 2
    by_cases h2 : c % 2 = 0
    · have ht : c.tmod 2 = 0 := by have := Int.tmod_def c 2; rw [Int.tmod_eq_emod]; split <;> omega
      have E3 := Aside0.mk h2
      clear h2
      have mc0 : World.cell? W ⟨(w.heap.size + 1 + 1), 0, none⟩ = some (Value.int .i64 m1) := (HM.out).cell 0
      have mc1 : World.cell? W ⟨(w.heap.size + 1 + 1), 1, none⟩ = some (Value.int .i64 m2) := (HM.out).cell 1
      have mc2 : World.cell? W ⟨(w.heap.size + 1 + 1), 2, none⟩ = some (Value.int .i64 0) := (HM.out).cell 2
      have mc3 : World.cell? W ⟨(w.heap.size + 1 + 1), 3, none⟩ = some (Value.int .i64 0) := (HM.out).cell 3
      have mc4 : World.cell? W ⟨(w.heap.size + 1 + 1), 4, none⟩ = some (Value.int .i64 (n % 65536)) := (HM.out).cell 4
      have zc0 : World.cell? W ⟨(w.heap.size + 1), 0, none⟩ = some (Value.int .i64 0) := (HZ.out).cell 0
      have zc1 : World.cell? W ⟨(w.heap.size + 1), 1, none⟩ = some (Value.int .i64 0) := (HZ.out).cell 1
      have zc2 : World.cell? W ⟨(w.heap.size + 1), 2, none⟩ = some (Value.int .i64 0) := (HZ.out).cell 2
      have zc3 : World.cell? W ⟨(w.heap.size + 1), 3, none⟩ = some (Value.int .i64 0) := (HZ.out).cell 3
      have zc4 : World.cell? W ⟨(w.heap.size + 1), 4, none⟩ = some (Value.int .i64 0) := (HZ.out).cell 4
      have zf0 : World.frozen? W ⟨(w.heap.size + 1), 0, none⟩ = false := (HZ.out).frozen 0
      have zf1 : World.frozen? W ⟨(w.heap.size + 1), 1, none⟩ = false := (HZ.out).frozen 1
      have zf2 : World.frozen? W ⟨(w.heap.size + 1), 2, none⟩ = false := (HZ.out).frozen 2
      have zf3 : World.frozen? W ⟨(w.heap.size + 1), 3, none⟩ = false := (HZ.out).frozen 3
      have zf4 : World.frozen? W ⟨(w.heap.size + 1), 4, none⟩ = false := (HZ.out).frozen 4
      go_wp2
      refine bodyPost_ret (results_cell_row rfl _ _ (w.heap.size + 1) 42 _ (0, 0) _ rfl (HZ.out.put5 rfl _ _ _ _ _) Try.underlying42 rfl (by kernel_rfl)) rfl ?_
      exact ⟨by rw [E1.out, E2.out, madC, madD, if_pos E3.out, if_pos E3.out], below5 HBW.out (Nat.le_succ _) _ _ _ _ _⟩
    · obtain ⟨r, ht⟩ : ∃ r, c.tmod 2 = r := ⟨_, rfl⟩
      have hr : r ≠ 0 := by intro h; have := Int.tmod_def c 2; rw [Int.tmod_eq_emod] at ht; split at ht <;> omega
      have z0 : (r == 0) = false := by simp [hr]
      have z1 : (r != 0) = true := by simp [hr]
      have E3 := Aside0.mk h2
      clear h2 hr
      have hne1 : w.heap.size + 1 ≠ w.heap.size + 1 + 1 := by omega
      have hne2 : w.heap.size ≠ w.heap.size + 1 + 1 := by omega
      have mc2 : World.cell? W ⟨(w.heap.size + 1 + 1), 2, none⟩ = some (Value.int .i64 0) := (HM.out).cell 2
      have mf2 : World.frozen? W ⟨(w.heap.size + 1 + 1), 2, none⟩ = false := (HM.out).frozen 2
      have pc3 : World.cell? (World.setCell W ⟨w.heap.size + 1 + 1, 2, none⟩ (.int .i64 (1 + c % 6))) ⟨w.heap.size, 3, none⟩ = some (Value.int .i64 d) := (HP.out.other 2 (.int .i64 (1 + c % 6)) hne2).cell 3
      have nc3 : World.cell? (World.setCell W ⟨w.heap.size + 1 + 1, 2, none⟩ (.int .i64 (1 + c % 6))) ⟨(w.heap.size + 1 + 1), 3, none⟩ = some (Value.int .i64 0) := (HM.out.put 2 (.int .i64 (1 + c % 6))).cell 3
      have nf3 : World.frozen? (World.setCell W ⟨w.heap.size + 1 + 1, 2, none⟩ (.int .i64 (1 + c % 6))) ⟨(w.heap.size + 1 + 1), 3, none⟩ = false := (HM.out.put 2 (.int .i64 (1 + c % 6))).frozen 3
      have qc0 : World.cell? (World.setCell (World.setCell W ⟨w.heap.size + 1 + 1, 2, none⟩ (.int .i64 (1 + c % 6))) ⟨w.heap.size + 1 + 1, 3, none⟩ (.int .i64 (1 + d % 4))) ⟨(w.heap.size + 1 + 1), 0, none⟩ = some (Value.int .i64 m1) := ((HM.out.put 2 (.int .i64 (1 + c % 6))).put 3 (.int .i64 (1 + d % 4))).cell 0
      have qc1 : World.cell? (World.setCell (World.setCell W ⟨w.heap.size + 1 + 1, 2, none⟩ (.int .i64 (1 + c % 6))) ⟨w.heap.size + 1 + 1, 3, none⟩ (.int .i64 (1 + d % 4))) ⟨(w.heap.size + 1 + 1), 1, none⟩ = some (Value.int .i64 m2) := ((HM.out.put 2 (.int .i64 (1 + c % 6))).put 3 (.int .i64 (1 + d % 4))).cell 1
      have qc2 : World.cell? (World.setCell (World.setCell W ⟨w.heap.size + 1 + 1, 2, none⟩ (.int .i64 (1 + c % 6))) ⟨w.heap.size + 1 + 1, 3, none⟩ (.int .i64 (1 + d % 4))) ⟨(w.heap.size + 1 + 1), 2, none⟩ = some (Value.int .i64 (1 + c % 6)) := ((HM.out.put 2 (.int .i64 (1 + c % 6))).put 3 (.int .i64 (1 + d % 4))).cell 2
      have qc3 : World.cell? (World.setCell (World.setCell W ⟨w.heap.size + 1 + 1, 2, none⟩ (.int .i64 (1 + c % 6))) ⟨w.heap.size + 1 + 1, 3, none⟩ (.int .i64 (1 + d % 4))) ⟨(w.heap.size + 1 + 1), 3, none⟩ = some (Value.int .i64 (1 + d % 4)) := ((HM.out.put 2 (.int .i64 (1 + c % 6))).put 3 (.int .i64 (1 + d % 4))).cell 3
      have qc4 : World.cell? (World.setCell (World.setCell W ⟨w.heap.size + 1 + 1, 2, none⟩ (.int .i64 (1 + c % 6))) ⟨w.heap.size + 1 + 1, 3, none⟩ (.int .i64 (1 + d % 4))) ⟨(w.heap.size + 1 + 1), 4, none⟩ = some (Value.int .i64 (n % 65536)) := ((HM.out.put 2 (.int .i64 (1 + c % 6))).put 3 (.int .i64 (1 + d % 4))).cell 4
      have zc0 : World.cell? (World.setCell (World.setCell W ⟨w.heap.size + 1 + 1, 2, none⟩ (.int .i64 (1 + c % 6))) ⟨w.heap.size + 1 + 1, 3, none⟩ (.int .i64 (1 + d % 4))) ⟨(w.heap.size + 1), 0, none⟩ = some (Value.int .i64 0) := ((HZ.out.other 2 (.int .i64 (1 + c % 6)) hne1).other 3 (.int .i64 (1 + d % 4)) hne1).cell 0
      have zc1 : World.cell? (World.setCell (World.setCell W ⟨w.heap.size + 1 + 1, 2, none⟩ (.int .i64 (1 + c % 6))) ⟨w.heap.size + 1 + 1, 3, none⟩ (.int .i64 (1 + d % 4))) ⟨(w.heap.size + 1), 1, none⟩ = some (Value.int .i64 0) := ((HZ.out.other 2 (.int .i64 (1 + c % 6)) hne1).other 3 (.int .i64 (1 + d % 4)) hne1).cell 1
      have zc2 : World.cell? (World.setCell (World.setCell W ⟨w.heap.size + 1 + 1, 2, none⟩ (.int .i64 (1 + c % 6))) ⟨w.heap.size + 1 + 1, 3, none⟩ (.int .i64 (1 + d % 4))) ⟨(w.heap.size + 1), 2, none⟩ = some (Value.int .i64 0) := ((HZ.out.other 2 (.int .i64 (1 + c % 6)) hne1).other 3 (.int .i64 (1 + d % 4)) hne1).cell 2
      have zc3 : World.cell? (World.setCell (World.setCell W ⟨w.heap.size + 1 + 1, 2, none⟩ (.int .i64 (1 + c % 6))) ⟨w.heap.size + 1 + 1, 3, none⟩ (.int .i64 (1 + d % 4))) ⟨(w.heap.size + 1), 3, none⟩ = some (Value.int .i64 0) := ((HZ.out.other 2 (.int .i64 (1 + c % 6)) hne1).other 3 (.int .i64 (1 + d % 4)) hne1).cell 3
      have zc4 : World.cell? (World.setCell (World.setCell W ⟨w.heap.size + 1 + 1, 2, none⟩ (.int .i64 (1 + c % 6))) ⟨w.heap.size + 1 + 1, 3, none⟩ (.int .i64 (1 + d % 4))) ⟨(w.heap.size + 1), 4, none⟩ = some (Value.int .i64 0) := ((HZ.out.other 2 (.int .i64 (1 + c % 6)) hne1).other 3 (.int .i64 (1 + d % 4)) hne1).cell 4
      have zf0 : World.frozen? (World.setCell (World.setCell W ⟨w.heap.size + 1 + 1, 2, none⟩ (.int .i64 (1 + c % 6))) ⟨w.heap.size + 1 + 1, 3, none⟩ (.int .i64 (1 + d % 4))) ⟨(w.heap.size + 1), 0, none⟩ = false := ((HZ.out.other 2 (.int .i64 (1 + c % 6)) hne1).other 3 (.int .i64 (1 + d % 4)) hne1).frozen 0
      have zf1 : World.frozen? (World.setCell (World.setCell W ⟨w.heap.size + 1 + 1, 2, none⟩ (.int .i64 (1 + c % 6))) ⟨w.heap.size + 1 + 1, 3, none⟩ (.int .i64 (1 + d % 4))) ⟨(w.heap.size + 1), 1, none⟩ = false := ((HZ.out.other 2 (.int .i64 (1 + c % 6)) hne1).other 3 (.int .i64 (1 + d % 4)) hne1).frozen 1
      have zf2 : World.frozen? (World.setCell (World.setCell W ⟨w.heap.size + 1 + 1, 2, none⟩ (.int .i64 (1 + c % 6))) ⟨w.heap.size + 1 + 1, 3, none⟩ (.int .i64 (1 + d % 4))) ⟨(w.heap.size + 1), 2, none⟩ = false := ((HZ.out.other 2 (.int .i64 (1 + c % 6)) hne1).other 3 (.int .i64 (1 + d % 4)) hne1).frozen 2
      have zf3 : World.frozen? (World.setCell (World.setCell W ⟨w.heap.size + 1 + 1, 2, none⟩ (.int .i64 (1 + c % 6))) ⟨w.heap.size + 1 + 1, 3, none⟩ (.int .i64 (1 + d % 4))) ⟨(w.heap.size + 1), 3, none⟩ = false := ((HZ.out.other 2 (.int .i64 (1 + c % 6)) hne1).other 3 (.int .i64 (1 + d % 4)) hne1).frozen 3
      have zf4 : World.frozen? (World.setCell (World.setCell W ⟨w.heap.size + 1 + 1, 2, none⟩ (.int .i64 (1 + c % 6))) ⟨w.heap.size + 1 + 1, 3, none⟩ (.int .i64 (1 + d % 4))) ⟨(w.heap.size + 1), 4, none⟩ = false := ((HZ.out.other 2 (.int .i64 (1 + c % 6)) hne1).other 3 (.int .i64 (1 + d % 4)) hne1).frozen 4
      have HZ3 := Aside0.mk ((HZ.out.other 2 (.int .i64 (1 + c % 6)) hne1).other 3 (.int .i64 (1 + d % 4)) hne1)
      have HB3 := Aside0.mk ((HBW.out.setCell (p := ⟨w.heap.size + 1 + 1, 2, none⟩) (by show w.heap.size ≤ w.heap.size + 1 + 1; omega) (.int .i64 (1 + c % 6))).setCell (p := ⟨w.heap.size + 1 + 1, 3, none⟩) (by show w.heap.size ≤ w.heap.size + 1 + 1; omega) (.int .i64 (1 + d % 4)))
      clear hne1 hne2
      go_wp2_with (first | (go_at_call 32; (with_reducible refine (bring_c c 6 _ HCC.out (by decide) (by decide)).mono ?_); rintro e w_q ⟨rfl, rfl⟩; skip) | (go_at_call 32; (with_reducible refine (bring_c d 4 _ HDD.out (by decide) (by decide)).mono ?_); rintro e w_q ⟨rfl, rfl⟩; skip))
      refine bodyPost_ret (results_cell_row rfl _ _ (w.heap.size + 1) 42 _ (0, 0) _ rfl (HZ3.out.put5 rfl _ _ _ _ _) Try.underlying42 rfl (by kernel_rfl)) rfl ?_
      exact ⟨by rw [E1.out, E2.out, madC, madD, if_neg E3.out, if_neg E3.out], below5 HB3.out (Nat.le_succ _) _ _ _ _ _⟩

end Go.Proofs.Ytkgjmajabgpadaa
