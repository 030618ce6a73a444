import Derived.Test.YtkgjmajabgpadaaN0
import Derived.Test.YtkgjmajabgpadaaN1
import Derived.Test.YtkgjmajabgpadaaD2
import Derived.Test.YtkgjmajabgpadaaD3
import Derived.Test.YtkgjmajabgpadaaD4
import Derived.Test.YtkgjmajabgpadaaB4
namespace Go.Proofs.Ytkgjmajabgpadaa
set_option linter.unusedVariables false
set_option linter.unusedSimpArgs false
open Go.RowKit Go.Proofs.YtkgjmajabgpadaaW.PrintWords Go.Proofs.YtkgjmajabgpadaaW.PrintLast Go.Proofs.YtkgjmajabgpadaaW.PrintMore
def endsO : List Int := [-9223372036854775808, -1, 0, 1, 2, 3, 4, 5, 8, 255, 256, 65535, 65536, 4294967295, 4294967296, 9223372036854775807]
theorem endsO_wf : ∀ x ∈ endsO, (Lit.int .i64 x).wf = true := by decide +kernel
theorem endsO_len : endsO.length = 16 := rfl
def r10_14.T : Bool × List (List Nat × List Nat) := (true, [([], []), ([], []), ([], []), ([1, 2], [1, 2]), ([3], [3]), ([], []), ([], []), ([5, 6], [5, 6]), ([7], [7]), ([8], [8]), ([0, 4, 9], [0, 4, 9]), ([10], [10])])
def r10_14.B : List Nat := [0, 0, 0, 6, 14, 0, 0, 96, 224, 480, 1023, 2047]
theorem r10_14.tab : rtab .any (opsOf Try.f10 14) = r10_14.T := by kernel_rfl
theorem r10_14.bits : waitsOk r10_14.T.2 r10_14.B = true := by kernel_rfl
theorem IV.nilv (w : World) : IV w (.slice none 0 0) [] := ⟨none, 0, rfl, Nat.le_refl _, Kd.C_nil _ _⟩
set_option maxHeartbeats 8000000 in
set_option maxRecDepth 100000 in
theorem octetKnown_walk (w : World) : Calls Try.prog 10 #[] w fun e w' => e = .returned (.bool true) ∧ Below w.heap.size w w' := by
  have HB := Aside0.mk (Below.refl w.heap.size w)
  go_enter Try.func10, Try.ntmps10
  go_wp2_with (first | (go_at_call 42; (with_reducible refine (nnum_c 1 _).mono ?_); rintro e w_q ⟨rfl, rfl⟩; skip) | (go_at_call 44; (with_reducible refine (ntext_c _).mono ?_); rintro e w_t ⟨A_t, c_t, rfl, hb⟩; have n_ := Aside0.mk (below_step (by repeat (first | (with_reducible first | exact HB.out | apply below_alloc | apply pw_below_drewN | apply below_drew1) | exact HB.out)) hb); clear HB; have HB := n_; clear n_; clear hb; skip) | (go_at_call 46; (with_reducible refine (nleft_c _).mono ?_); rintro e w_q ⟨rfl, rfl⟩; skip) | (go_at_call 48; (with_reducible refine (nerr_c _).mono ?_); rintro e w_q ⟨rfl, rfl⟩; skip) | (go_at_call 50; (with_reducible refine (nend_c _).mono ?_); rintro e w_q ⟨rfl, rfl⟩; skip) | (go_at_call 46; (with_reducible refine (oleft_c _ [] 0 _ ?s0).mono ?_); (case s0 => exact ⟨none, 0, blk_new _ _, Nat.le_refl _, BC.nil _⟩); rintro e w_q ⟨rfl, rfl⟩; skip) | (go_at_call 50; (with_reducible refine (oend_c _ [] 0 0 _ ?s0 rfl).mono ?_); (case s0 => exact ⟨none, 0, blk_new _ _, Nat.le_refl _, BC.nil _⟩); rintro e w_q ⟨rfl, rfl⟩; skip) | (go_at_call 42; (with_reducible refine (onum_c _ [] 0 2 0 ([], 3) _ ?s0 bytesP.nil (by decide +kernel)).mono ?_); (case s0 => exact ⟨none, 0, blk_new _ _, Nat.le_refl _, BC.nil _⟩); rintro e w_n ⟨rfl, hr, hk⟩; have HRR := Aside0.mk hr; have n_ := Aside0.mk (below_kp (by repeat (first | (with_reducible first | exact HB.out | apply below_alloc | apply pw_below_drewN | apply below_drew1) | exact HB.out)) hk (below_size HB.out) (below_size (by repeat (first | (with_reducible first | exact HB.out | apply below_alloc | apply pw_below_drewN | apply below_drew1) | exact HB.out)))); clear HB; have HB := n_; clear n_ hr hk; skip) | (go_at_call 48; (with_reducible refine (oerr_c _ [] 3 _ ?s0).mono ?_); (case s0 => exact HRR.out); rintro e w_q ⟨rfl, rfl⟩; skip))
  obtain ⟨ge, hge⟩ : ∃ ge, w_n.heap.size = ge := ⟨_, rfl⟩
  generalize hW : World.alloc w_n (.cells #[.int .i64 (-9223372036854775808), .int .i64 (-1), .int .i64 0, .int .i64 1, .int .i64 2, .int .i64 3, .int .i64 4, .int .i64 5, .int .i64 8, .int .i64 255, .int .i64 256, .int .i64 65535, .int .i64 65536, .int .i64 4294967295, .int .i64 4294967296, .int .i64 9223372036854775807] 3) = W0
  rw [hge]
  have HE := Aside0.mk (show Rw W0 ge endsO from hge ▸ hW ▸ Rw.new w_n endsO)
  have hb : Below w_n.heap.size w_n W0 := hW ▸ below_alloc (Below.refl w_n.heap.size w_n) _
  have n_ := Aside0.mk (below_step (by repeat (first | (with_reducible first | exact HB.out | apply below_alloc | apply pw_below_drewN | apply below_drew1) | exact HB.out)) hb)
  clear HB
  have HB := n_
  clear n_
  clear hW hb hge
  go_loopg [3] 16 (fun k v3 w' => ∃ i : Nat, i + k = 16 ∧ v3 = .int .i64 i ∧ Aside0 (Rw w' ge endsO) ∧ Aside0 (Below w.heap.size w w'))
  case atStart => exact ⟨0, by omega, rfl, HE, HB⟩
  case round =>
    clear HE HB
    obtain ⟨i, hi, rfl, HE, HB⟩ := hrel
    by_cases h2 : i < 16
    · obtain ⟨g', rfl⟩ : ∃ g', gk = g' + 1 := ⟨gk - 1, by omega⟩
      have y1 : decide ((i : Int) < 16) = true := decide_eq_true (by omega)
      have y2 : decide (i < 16) = true := decide_eq_true h2
      have q1 : ((i : Int) < 16) = True := eq_true (by omega)
      obtain ⟨n, hn⟩ : ∃ n, endsO.getD i 0 = n := ⟨_, rfl⟩
      have HWN := Aside0.mk (show (Lit.int .i64 n).wf = true from hn ▸ endsO_wf _ (getD_mem endsO i h2))
      have HN := Aside0.mk hn
      clear hn
      go_wp2
      go_loopg [4] 16 (fun k v4 w' => ∃ k2 : Nat, k2 + k = 16 ∧ v4 = .int .i64 k2 ∧ Aside0 (Rw w' ge endsO) ∧ Aside0 (Below w.heap.size w w'))
      case atStart => exact ⟨0, by omega, rfl, HE, HB⟩
      case round =>
        clear HE HB
        obtain ⟨k2, hk2, rfl, HE, HB⟩ := hrel
        by_cases h3 : k2 < 16
        · obtain ⟨g2, rfl⟩ : ∃ g2, gk = g2 + 1 := ⟨gk - 1, by omega⟩
          have y3 : decide ((k2 : Int) < 16) = true := decide_eq_true (by omega)
          have y4 : decide (k2 < 16) = true := decide_eq_true h3
          have q3 : ((k2 : Int) < 16) = True := eq_true (by omega)
          obtain ⟨n2, hn2⟩ : ∃ n2, endsO.getD k2 0 = n2 := ⟨_, rfl⟩
          have HWK := Aside0.mk (show (Lit.int .i64 n2).wf = true from hn2 ▸ endsO_wf _ (getD_mem endsO k2 h3))
          have HN2 := Aside0.mk hn2
          clear hn2
          go_wp2
          refine start_ (n := 12) (S := fun w' => w'.cell? ⟨ge, i, none⟩ = some (Value.int .i64 n) ∧ w'.cell? ⟨ge, k2, none⟩ = some (Value.int .i64 n2)) (ds := []) #[false, false, false, false, false, false, false, false, false, false, false, false] (by kernel_rfl) rfl rfl ⟨(HE.out.at_ i h2).trans (by rw [HN.out]), (HE.out.at_ k2 h3).trans (by rw [HN2.out])⟩ (fun hHeld => ?_)
          refine with_tabW r10_14.tab r10_14.bits (fun HT_ HW_ => ?_)
          refine pure_ (i := 1) (N := some 63) (v := ?_) (a' := ?_) #[false, true, false, false, false, false, false, false, false, false, false, false] rfl rfl (any_of HT_.out (by kernel_rfl)) (fun _ _ _ h => h) (Or.inl ⟨by rfl, ?_⟩) ?_ ?_
          rotate_left
          · intro w'
            go_simp
            with_reducible rfl
          rotate_left
          · simp only [Act.put, List.setIfInBounds_toArray, List.set_cons_zero, List.set_cons_succ, i64_w, i32_w]
            rfl
          refine pure_ (i := 2) (N := some 64) (v := ?_) (a' := ?_) #[false, true, true, false, false, false, false, false, false, false, false, false] rfl rfl (any_of HT_.out (by kernel_rfl)) (fun _ _ _ h => h) (Or.inl ⟨by rfl, ?_⟩) ?_ ?_
          rotate_left
          · intro w'
            go_simp
            with_reducible rfl
          rotate_left
          · simp only [Act.put, List.setIfInBounds_toArray, List.set_cons_zero, List.set_cons_succ, i64_w, i32_w]
            rfl
          refine pure_ (i := 3) (N := some 65) (v := ?_) (a' := ?_) #[false, true, true, true, false, false, false, false, false, false, false, false] rfl rfl (any_of HT_.out (by kernel_rfl)) (fun _ _ _ h => h) (Or.inl ⟨by rfl, ?_⟩) ?_ ?_
          rotate_left
          · intro w'
            go_simp
            with_reducible rfl
          rotate_left
          · simp only [Act.put, List.setIfInBounds_toArray, List.set_cons_zero, List.set_cons_succ, i64_w, i32_w]
            rfl
          refine pure_ (i := 5) (N := some 67) (v := ?_) (a' := ?_) #[false, true, true, true, false, true, false, false, false, false, false, false] rfl rfl (any_of HT_.out (by kernel_rfl)) (fun _ _ _ h => h) (Or.inl ⟨by rfl, ?_⟩) ?_ ?_
          rotate_left
          · intro w'
            go_simp
            with_reducible rfl
          rotate_left
          · simp only [Act.put, List.setIfInBounds_toArray, List.set_cons_zero, List.set_cons_succ, i64_w, i32_w]
            rfl
          refine pure_ (i := 6) (N := some 68) (v := ?_) (a' := ?_) #[false, true, true, true, false, true, true, false, false, false, false, false] rfl rfl (any_of HT_.out (by kernel_rfl)) (fun _ _ _ h => h) (Or.inl ⟨by rfl, ?_⟩) ?_ ?_
          rotate_left
          · intro w'
            go_simp
            with_reducible rfl
          rotate_left
          · simp only [Act.put, List.setIfInBounds_toArray, List.set_cons_zero, List.set_cons_succ, i64_w, i32_w]
            rfl
          refine pure_ (i := 7) (N := some 69) (v := ?_) (a' := ?_) #[false, true, true, true, false, true, true, true, false, false, false, false] rfl rfl (any_of HT_.out (by kernel_rfl)) (fun _ _ _ h => h) (Or.inl ⟨by rfl, ?_⟩) ?_ ?_
          rotate_left
          · intro w'
            go_simp
            with_reducible rfl
          rotate_left
          · simp only [Act.put, List.setIfInBounds_toArray, List.set_cons_zero, List.set_cons_succ, i64_w, i32_w]
            rfl
          refine take_ (i := 4) (N := some 66) (v := ?_) (a' := ?_) #[false, true, true, true, true, true, true, true, false, false, false, false] rfl rfl (take_ofW HT_.out HW_.out (by kernel_rfl)) (fun _ _ _ h => h) (Or.inl ⟨by rfl, ?_⟩) hHeld ?_ ?_
          rotate_left
          · rintro w' ⟨s0, s1⟩
            go_simp
            with_reducible rfl
          rotate_left
          · simp only [Act.put, List.setIfInBounds_toArray, List.set_cons_zero, List.set_cons_succ, i64_w, i32_w]
            rfl
          refine take_ (i := 8) (N := some 70) (v := ?_) (a' := ?_) #[false, true, true, true, true, true, true, true, true, false, false, false] rfl rfl (take_ofW HT_.out HW_.out (by kernel_rfl)) (fun _ _ _ h => h) (Or.inl ⟨by rfl, ?_⟩) hHeld ?_ ?_
          rotate_left
          · rintro w' ⟨s0, s1⟩
            go_simp
            with_reducible rfl
          rotate_left
          · simp only [Act.put, List.setIfInBounds_toArray, List.set_cons_zero, List.set_cons_succ, i64_w, i32_w]
            rfl
          refine two_ (i := 0) (j := 9) (Ni := some 62) (Nj := some 71) #[true, true, true, true, true, true, true, true, true, false, false, false] #[false, true, true, true, true, true, true, true, true, true, false, false] rfl rfl rfl rfl (by kernel_rfl) (by decide) (by decide) (fun K hK => ?_) (fun K hK => ?_)
          · refine lit8_ (by rfl) rfl [1, 2] (by simp) (by first | (go_simp; done) | (go_simp; rfl)) ?_
            intro gA wA hgx hvx hbx
            have n_ := Aside0.mk (Rw.mv (by repeat (first | (with_reducible first | exact HE.out | apply Rw.alloc | apply Rw.drewN | apply Rw.drew))) hbx); clear HE; have HE := n_; clear n_
            have n_ := Aside0.mk (below_step (by repeat (first | (with_reducible first | exact HB.out | apply below_alloc | apply pw_below_drewN | apply below_drew1) | exact HB.out)) hbx); clear HB; have HB := n_; clear n_
            (try (have n_ := Aside0.mk (IV.mv HV64.out hbx); clear HV64; have HV64 := n_; clear n_))
            have HA8 := Aside0.mk (show BV wA (.slice (some ⟨gA, 0, none⟩) 2 2) [1, 2] from hvx)
            clear hgx hvx hbx
            refine hK.out _ _ ⟨(HE.out.at_ i h2).trans (by rw [HN.out]), (HE.out.at_ k2 h3).trans (by rw [HN2.out])⟩ (fun hHeld => ?_)
            clear hK K
            refine norm_ (a' := ?_) ?_ ?_
            rotate_left
            · show Act.put _ (some 62) _ = _
              simp only [Act.put, List.setIfInBounds_toArray, List.set_cons_zero, List.set_cons_succ, i64_w, i32_w]
              rfl
            refine one_ (i := 9) (N := some 71) #[true, true, true, true, true, true, true, true, true, true, false, false] rfl rfl (one_of HT_.out (by kernel_rfl)) (by decide) (fun K hK => ?_)
            refine lit64_ (by rfl) rfl [n2, 5] (by simp) (by first | (go_simp; done) | (go_simp; rfl)) ?_
            intro gB wB hgx hvx hbx
            have n_ := Aside0.mk (Rw.mv (by repeat (first | (with_reducible first | exact HE.out | apply Rw.alloc | apply Rw.drewN | apply Rw.drew))) hbx); clear HE; have HE := n_; clear n_
            have n_ := Aside0.mk (below_step (by repeat (first | (with_reducible first | exact HB.out | apply below_alloc | apply pw_below_drewN | apply below_drew1) | exact HB.out)) hbx); clear HB; have HB := n_; clear n_
            (try (have n_ := Aside0.mk (BV.mv HA8.out hbx); clear HA8; have HA8 := n_; clear n_))
            have HV64 := Aside0.mk (show IV wB (.slice (some ⟨gB, 0, none⟩) 2 2) [n2, 5] from hvx)
            clear hgx hvx hbx
            refine hK.out _ _ ⟨(HE.out.at_ i h2).trans (by rw [HN.out]), (HE.out.at_ k2 h3).trans (by rw [HN2.out])⟩ (fun hHeld => ?_)
            clear hK K
            refine norm_ (a' := ?_) ?_ ?_
            rotate_left
            · show Act.put _ (some 71) _ = _
              simp only [Act.put, List.setIfInBounds_toArray, List.set_cons_zero, List.set_cons_succ, i64_w, i32_w]
              rfl
            refine one_ (i := 10) (N := some 72) #[true, true, true, true, true, true, true, true, true, true, true, false] rfl rfl (one_of HT_.out (by kernel_rfl)) (by decide) (fun K hK => ?_)
            refine goes_ Try.func3 (by kernel_rfl) rfl #[(.slice (some ⟨gA, 0, none⟩) 2 2), (.int .i64 n), (.slice (some ⟨gB, 0, none⟩) 2 2)] (by rfl) rfl rfl (by (try simp only [List.map_toArray, List.map_cons, List.map_nil]); first | done | rfl) ?_
            with_reducible refine (octetPuts_walk (.slice (some ⟨gA, 0, none⟩) 2 2) [1, 2] HA8.out (by decide) (by decide) n HWN.out (.slice (some ⟨gB, 0, none⟩) 2 2) [n2, 5] HV64.out ?u1_0 (by simp)).mono ?_
            (case u1_0 => intro x hx; simp only [List.mem_cons, List.not_mem_nil, or_false] at hx; rcases hx with rfl | rfl; exact HWK.out; decide)
            rintro e w_3 ⟨rfl, hb⟩
            refine ⟨_, rfl, ?_⟩
            have n_ := Aside0.mk (Rw.mv (by repeat (first | (with_reducible first | exact HE.out | apply Rw.alloc | apply Rw.drewN | apply Rw.drew))) hb); clear HE; have HE := n_; clear n_
            have n_ := Aside0.mk (below_step (by repeat (first | (with_reducible first | exact HB.out | apply below_alloc | apply pw_below_drewN | apply below_drew1) | exact HB.out)) hb); clear HB; have HB := n_; clear n_ hb
            refine hK.out _ _ ⟨(HE.out.at_ i h2).trans (by rw [HN.out]), (HE.out.at_ k2 h3).trans (by rw [HN2.out])⟩ (fun hHeld => ?_)
            clear hK K
            refine norm_ (a' := ?_) ?_ ?_
            rotate_left
            · show Act.put _ (some 72) _ = _
              simp only [Act.put, List.setIfInBounds_toArray, List.set_cons_zero, List.set_cons_succ, i64_w, i32_w]
              rfl
            refine pure_ (i := 11) (N := some 73) (v := ?_) (a' := ?_) #[true, true, true, true, true, true, true, true, true, true, true, true] rfl rfl (any_of HT_.out (by kernel_rfl)) (fun _ _ _ h => h) (Or.inl ⟨by rfl, ?_⟩) ?_ ?_
            rotate_left
            · intro w'
              go_simp
              with_reducible rfl
            rotate_left
            · simp only [Act.put, List.setIfInBounds_toArray, List.set_cons_zero, List.set_cons_succ, i64_w, i32_w]
              rfl
            refine done_ (done_of HT_.out (by kernel_rfl)) ?_
            go_wp2
            go_roundg g2
            case measure => omega
            case rel => exact ⟨k2 + 1, by omega, by go_num, HE, HB⟩
          · refine lit64_ (by rfl) rfl [n2, 5] (by simp) (by first | (go_simp; done) | (go_simp; rfl)) ?_
            intro gB wB hgx hvx hbx
            have n_ := Aside0.mk (Rw.mv (by repeat (first | (with_reducible first | exact HE.out | apply Rw.alloc | apply Rw.drewN | apply Rw.drew))) hbx); clear HE; have HE := n_; clear n_
            have n_ := Aside0.mk (below_step (by repeat (first | (with_reducible first | exact HB.out | apply below_alloc | apply pw_below_drewN | apply below_drew1) | exact HB.out)) hbx); clear HB; have HB := n_; clear n_
            (try (have n_ := Aside0.mk (BV.mv HA8.out hbx); clear HA8; have HA8 := n_; clear n_))
            have HV64 := Aside0.mk (show IV wB (.slice (some ⟨gB, 0, none⟩) 2 2) [n2, 5] from hvx)
            clear hgx hvx hbx
            refine hK.out _ _ ⟨(HE.out.at_ i h2).trans (by rw [HN.out]), (HE.out.at_ k2 h3).trans (by rw [HN2.out])⟩ (fun hHeld => ?_)
            clear hK K
            refine norm_ (a' := ?_) ?_ ?_
            rotate_left
            · show Act.put _ (some 71) _ = _
              simp only [Act.put, List.setIfInBounds_toArray, List.set_cons_zero, List.set_cons_succ, i64_w, i32_w]
              rfl
            refine one_ (i := 0) (N := some 62) #[true, true, true, true, true, true, true, true, true, true, false, false] rfl rfl (one_of HT_.out (by kernel_rfl)) (by decide) (fun K hK => ?_)
            refine lit8_ (by rfl) rfl [1, 2] (by simp) (by first | (go_simp; done) | (go_simp; rfl)) ?_
            intro gA wA hgx hvx hbx
            have n_ := Aside0.mk (Rw.mv (by repeat (first | (with_reducible first | exact HE.out | apply Rw.alloc | apply Rw.drewN | apply Rw.drew))) hbx); clear HE; have HE := n_; clear n_
            have n_ := Aside0.mk (below_step (by repeat (first | (with_reducible first | exact HB.out | apply below_alloc | apply pw_below_drewN | apply below_drew1) | exact HB.out)) hbx); clear HB; have HB := n_; clear n_
            (try (have n_ := Aside0.mk (IV.mv HV64.out hbx); clear HV64; have HV64 := n_; clear n_))
            have HA8 := Aside0.mk (show BV wA (.slice (some ⟨gA, 0, none⟩) 2 2) [1, 2] from hvx)
            clear hgx hvx hbx
            refine hK.out _ _ ⟨(HE.out.at_ i h2).trans (by rw [HN.out]), (HE.out.at_ k2 h3).trans (by rw [HN2.out])⟩ (fun hHeld => ?_)
            clear hK K
            refine norm_ (a' := ?_) ?_ ?_
            rotate_left
            · show Act.put _ (some 62) _ = _
              simp only [Act.put, List.setIfInBounds_toArray, List.set_cons_zero, List.set_cons_succ, i64_w, i32_w]
              rfl
            refine one_ (i := 10) (N := some 72) #[true, true, true, true, true, true, true, true, true, true, true, false] rfl rfl (one_of HT_.out (by kernel_rfl)) (by decide) (fun K hK => ?_)
            refine goes_ Try.func3 (by kernel_rfl) rfl #[(.slice (some ⟨gA, 0, none⟩) 2 2), (.int .i64 n), (.slice (some ⟨gB, 0, none⟩) 2 2)] (by rfl) rfl rfl (by (try simp only [List.map_toArray, List.map_cons, List.map_nil]); first | done | rfl) ?_
            with_reducible refine (octetPuts_walk (.slice (some ⟨gA, 0, none⟩) 2 2) [1, 2] HA8.out (by decide) (by decide) n HWN.out (.slice (some ⟨gB, 0, none⟩) 2 2) [n2, 5] HV64.out ?u2_0 (by simp)).mono ?_
            (case u2_0 => intro x hx; simp only [List.mem_cons, List.not_mem_nil, or_false] at hx; rcases hx with rfl | rfl; exact HWK.out; decide)
            rintro e w_3 ⟨rfl, hb⟩
            refine ⟨_, rfl, ?_⟩
            have n_ := Aside0.mk (Rw.mv (by repeat (first | (with_reducible first | exact HE.out | apply Rw.alloc | apply Rw.drewN | apply Rw.drew))) hb); clear HE; have HE := n_; clear n_
            have n_ := Aside0.mk (below_step (by repeat (first | (with_reducible first | exact HB.out | apply below_alloc | apply pw_below_drewN | apply below_drew1) | exact HB.out)) hb); clear HB; have HB := n_; clear n_ hb
            refine hK.out _ _ ⟨(HE.out.at_ i h2).trans (by rw [HN.out]), (HE.out.at_ k2 h3).trans (by rw [HN2.out])⟩ (fun hHeld => ?_)
            clear hK K
            refine norm_ (a' := ?_) ?_ ?_
            rotate_left
            · show Act.put _ (some 72) _ = _
              simp only [Act.put, List.setIfInBounds_toArray, List.set_cons_zero, List.set_cons_succ, i64_w, i32_w]
              rfl
            refine pure_ (i := 11) (N := some 73) (v := ?_) (a' := ?_) #[true, true, true, true, true, true, true, true, true, true, true, true] rfl rfl (any_of HT_.out (by kernel_rfl)) (fun _ _ _ h => h) (Or.inl ⟨by rfl, ?_⟩) ?_ ?_
            rotate_left
            · intro w'
              go_simp
              with_reducible rfl
            rotate_left
            · simp only [Act.put, List.setIfInBounds_toArray, List.set_cons_zero, List.set_cons_succ, i64_w, i32_w]
              rfl
            refine done_ (done_of HT_.out (by kernel_rfl)) ?_
            go_wp2
            go_roundg g2
            case measure => omega
            case rel => exact ⟨k2 + 1, by omega, by go_num, HE, HB⟩
        · have y3 : decide ((k2 : Int) < 16) = false := decide_eq_false (by omega)
          have y4 : decide (k2 < 16) = false := decide_eq_false h3
          go_wp2_with (first | ((with_reducible refine gate_dst (N := 74) rfl ?_); refine lit_u8 (w0 := w) (N := 74) w.heap.size ?hg ?hd [0, 1, 7, 8, 9, 0, 9] ?hr ?hB ?hS (by simp) ?_; (case hd => rfl); (case hg => rfl); (case hr => first | (go_simp; done) | (go_simp; rfl)); (case hB => exact (by repeat (first | (with_reducible first | exact HB.out | apply below_alloc | apply pw_below_drewN | apply below_drew1) | exact HB.out))); (case hS => exact below_size (by repeat (first | (with_reducible first | exact HB.out | apply below_alloc | apply pw_below_drewN | apply below_drew1) | exact HB.out))); intro v_a w_a ho hb hg hat; have n_ := Aside0.mk (Rw.mv (by repeat (first | (with_reducible first | exact HE.out | apply Rw.alloc | apply Rw.drewN | apply Rw.drew))) (below_of_grown_none hg)); clear HE; have HE := n_; clear n_; have n_ := Aside0.mk hb; clear HB; have HB := n_; clear n_; have HO_a := Aside0.mk ho; clear ho hb hg hat; obtain ⟨A_a, c_a, e_a, _, _⟩ := BR.reads HO_a.out; subst e_a; (try clear hcn); have hcn := (HE.out.at_ i h2).trans (show some (Value.int .i64 (endsO.getD i 0)) = some (Value.int .i64 n) by rw [HN.out]); skip) | ((with_reducible refine gate_dst (N := 79) rfl ?_); refine lit_i64 (w0 := w) (N := 79) w.heap.size ?hg ?hd [-1, 1, n, 2, -1] ?hr ?hB ?hS (by simp) ?_; (case hd => rfl); (case hg => rfl); (case hr => first | (go_simp; done) | (go_simp; rfl)); (case hB => exact (by repeat (first | (with_reducible first | exact HB.out | apply below_alloc | apply pw_below_drewN | apply below_drew1) | exact HB.out))); (case hS => exact below_size (by repeat (first | (with_reducible first | exact HB.out | apply below_alloc | apply pw_below_drewN | apply below_drew1) | exact HB.out))); intro v_b w_b ho hb hg hat; have n_ := Aside0.mk (Rw.mv (by repeat (first | (with_reducible first | exact HE.out | apply Rw.alloc | apply Rw.drewN | apply Rw.drew))) (below_of_grown_none hg)); clear HE; have HE := n_; clear n_; have n_ := Aside0.mk (BR.mv (by repeat (first | (with_reducible first | exact HO_a.out | apply BR.alloc | apply BR.drewN | apply BR.drew))) (below_of_grown_none hg)); clear HO_a; have HO_a := n_; clear n_; have n_ := Aside0.mk hb; clear HB; have HB := n_; clear n_; have HO_b := Aside0.mk ho; clear ho hb hg hat; obtain ⟨A_b, c_b, e_b, _, _⟩ := IR.reads HO_b.out; subst e_b) | (go_at_call 8; have hbva : BV w_b (.slice A_a 7 c_a) [0, 1, 7, 8, 9, 0, 9] := BR.bv HO_a.out; have hivb : IV w_b (.slice A_b 5 c_b) [-1, 1, n, 2, -1] := IR.iv HO_b.out; have hwf : ∀ x ∈ ([-1, 1, n, 2, -1] : List Int), (Lit.int .i64 x).wf = true := (by intro x hx; simp only [List.mem_cons, List.not_mem_nil, or_false] at hx; rcases hx with h | h | h | h | h <;> subst h <;> first | exact HWN.out | decide); have hby : bytesP [0, 1, 7, 8, 9, 0, 9] := (by decide); (with_reducible refine (octetReads_walk _ _ hbva hby (by decide) _ _ hivb hwf (by simp)).mono ?_); rintro e w_m ⟨rfl, hb⟩; have n_ := Aside0.mk (Rw.mv (by repeat (first | (with_reducible first | exact HE.out | apply Rw.alloc | apply Rw.drewN | apply Rw.drew))) hb); clear HE; have HE := n_; clear n_; have n_ := Aside0.mk (below_step (by repeat (first | (with_reducible first | exact HB.out | apply below_alloc | apply pw_below_drewN | apply below_drew1) | exact HB.out)) hb); clear HB; have HB := n_; clear n_; clear hb; skip))
          go_roundg g'
          case measure => omega
          case rel => exact ⟨i + 1, by omega, by go_num, HE, HB⟩
    · have y1 : decide ((i : Int) < 16) = false := decide_eq_false (by omega)
      have y2 : decide (i < 16) = false := decide_eq_false h2
      obtain ⟨m1, em1⟩ : ∃ m : Nat, m = 65535 := ⟨_, rfl⟩
      have Hm1 := Aside0.mk (show m1 ≤ 100000 by omega)
      have hmkm1 : ∀ W : World, (Instr.makeSlice 22 (.int .i64 65535) (.int .i64 65535)).run Try.prog W = .ok (.slice (some ⟨W.heap.size, 0, none⟩) m1 m1) (W.alloc (.cells (madeCells #[.int .u8 0] m1) 5)) := by rw [em1]; exact mk_run 65535 (by decide)
      clear em1
      obtain ⟨m2, em2⟩ : ∃ m : Nat, m = 65536 := ⟨_, rfl⟩
      have Hm2 := Aside0.mk (show m2 ≤ 100000 by omega)
      have hmkm2 : ∀ W : World, (Instr.makeSlice 22 (.int .i64 65536) (.int .i64 65536)).run Try.prog W = .ok (.slice (some ⟨W.heap.size, 0, none⟩) m2 m2) (W.alloc (.cells (madeCells #[.int .u8 0] m2) 5)) := by rw [em2]; exact mk_run 65536 (by decide)
      clear em2
      obtain ⟨m3, em3⟩ : ∃ m : Nat, m = 509 := ⟨_, rfl⟩
      have Hm3 := Aside0.mk (show m3 ≤ 100000 by omega)
      have hmkm3 : ∀ W : World, (Instr.makeSlice 22 (.int .i64 509) (.int .i64 509)).run Try.prog W = .ok (.slice (some ⟨W.heap.size, 0, none⟩) m3 m3) (W.alloc (.cells (madeCells #[.int .u8 0] m3) 5)) := by rw [em3]; exact mk_run 509 (by decide)
      clear em3
      obtain ⟨m4, em4⟩ : ∃ m : Nat, m = 510 := ⟨_, rfl⟩
      have Hm4 := Aside0.mk (show m4 ≤ 100000 by omega)
      have hmkm4 : ∀ W : World, (Instr.makeSlice 22 (.int .i64 510) (.int .i64 510)).run Try.prog W = .ok (.slice (some ⟨W.heap.size, 0, none⟩) m4 m4) (W.alloc (.cells (madeCells #[.int .u8 0] m4) 5)) := by rw [em4]; exact mk_run 510 (by decide)
      clear em4
      obtain ⟨m5, em5⟩ : ∃ m : Nat, m = 513 := ⟨_, rfl⟩
      have Hm5 := Aside0.mk (show m5 ≤ 100000 by omega)
      have hmkm5 : ∀ W : World, (Instr.makeSlice 22 (.int .i64 513) (.int .i64 513)).run Try.prog W = .ok (.slice (some ⟨W.heap.size, 0, none⟩) m5 m5) (W.alloc (.cells (madeCells #[.int .u8 0] m5) 5)) := by rw [em5]; exact mk_run 513 (by decide)
      clear em5
      obtain ⟨m6, em6⟩ : ∃ m : Nat, m = 2 := ⟨_, rfl⟩
      have Hm6 := Aside0.mk (show m6 ≤ 100000 by omega)
      have hmkm6 : ∀ W : World, (Instr.makeSlice 22 (.int .i64 2) (.int .i64 2)).run Try.prog W = .ok (.slice (some ⟨W.heap.size, 0, none⟩) m6 m6) (W.alloc (.cells (madeCells #[.int .u8 0] m6) 5)) := by rw [em6]; exact mk_run 2 (by decide)
      clear em6
      go_wp2_with (first | (go_at_call 29; (with_reducible refine (works1_c _).mono ?_); rintro e w_m ⟨rfl, hb⟩; have n_ := Aside0.mk (below_step (by repeat (first | (with_reducible first | exact HB.out | apply below_alloc | apply pw_below_drewN | apply below_drew1) | exact HB.out)) hb); clear HB; have HB := n_; clear n_; clear hb; skip) | (go_at_call 3; (with_reducible refine (octetPuts_walk _ (List.replicate m1 0) (mk_bv _ m1 Hm1.out) (zeros_bytes m1) ?s0 1 (by decide) _ [] (IV.nilv _) (by simp) (by simp)).mono ?_); (case s0 => have := Hm1.out; rw [List.length_replicate]; omega); rintro e w_m ⟨rfl, hb⟩; have n_ := Aside0.mk (below_step (by repeat (first | (with_reducible first | exact HB.out | apply below_alloc | apply pw_below_drewN | apply below_drew1) | exact HB.out)) hb); clear HB; have HB := n_; clear n_; clear hb; skip) | (go_at_call 3; (with_reducible refine (octetPuts_walk _ (List.replicate m2 0) (mk_bv _ m2 Hm2.out) (zeros_bytes m2) ?s0 1 (by decide) _ [] (IV.nilv _) (by simp) (by simp)).mono ?_); (case s0 => have := Hm2.out; rw [List.length_replicate]; omega); rintro e w_m ⟨rfl, hb⟩; have n_ := Aside0.mk (below_step (by repeat (first | (with_reducible first | exact HB.out | apply below_alloc | apply pw_below_drewN | apply below_drew1) | exact HB.out)) hb); clear HB; have HB := n_; clear n_; clear hb; skip) | (go_at_call 3; (with_reducible refine (octetPuts_walk _ (List.replicate m3 0) (mk_bv _ m3 Hm3.out) (zeros_bytes m3) ?s0 255 (by decide) _ [] (IV.nilv _) (by simp) (by simp)).mono ?_); (case s0 => have := Hm3.out; rw [List.length_replicate]; omega); rintro e w_m ⟨rfl, hb⟩; have n_ := Aside0.mk (below_step (by repeat (first | (with_reducible first | exact HB.out | apply below_alloc | apply pw_below_drewN | apply below_drew1) | exact HB.out)) hb); clear HB; have HB := n_; clear n_; clear hb; skip) | (go_at_call 3; (with_reducible refine (octetPuts_walk _ (List.replicate m4 0) (mk_bv _ m4 Hm4.out) (zeros_bytes m4) ?s0 255 (by decide) _ [] (IV.nilv _) (by simp) (by simp)).mono ?_); (case s0 => have := Hm4.out; rw [List.length_replicate]; omega); rintro e w_m ⟨rfl, hb⟩; have n_ := Aside0.mk (below_step (by repeat (first | (with_reducible first | exact HB.out | apply below_alloc | apply pw_below_drewN | apply below_drew1) | exact HB.out)) hb); clear HB; have HB := n_; clear n_; clear hb; skip) | (go_at_call 4; (with_reducible refine (octetOpens_walk _ (List.replicate m5 0) (mk_bv _ m5 Hm5.out) (zeros_bytes m5) ?s0).mono ?_); (case s0 => have := Hm5.out; rw [List.length_replicate]; omega); rintro e w_m ⟨rfl, hb⟩; have n_ := Aside0.mk (below_step (by repeat (first | (with_reducible first | exact HB.out | apply below_alloc | apply pw_below_drewN | apply below_drew1) | exact HB.out)) hb); clear HB; have HB := n_; clear n_; clear hb; skip) | (go_at_call 4; (with_reducible refine (octetOpens_walk _ (List.replicate m6 0) (mk_bv _ m6 Hm6.out) (zeros_bytes m6) ?s0).mono ?_); (case s0 => have := Hm6.out; rw [List.length_replicate]; omega); rintro e w_m ⟨rfl, hb⟩; have n_ := Aside0.mk (below_step (by repeat (first | (with_reducible first | exact HB.out | apply below_alloc | apply pw_below_drewN | apply below_drew1) | exact HB.out)) hb); clear HB; have HB := n_; clear n_; clear hb; skip) | (go_at_call 4; (with_reducible refine (octetOpens_walk _ [] (BV.nil _) bytesP.nil (by decide)).mono ?_); rintro e w_m ⟨rfl, hb⟩; have n_ := Aside0.mk (below_step (by repeat (first | (with_reducible first | exact HB.out | apply below_alloc | apply pw_below_drewN | apply below_drew1) | exact HB.out)) hb); clear HB; have HB := n_; clear n_; clear hb; skip))
      go_ret
      exact ⟨rfl, (by repeat (first | (with_reducible first | exact HB.out | apply below_alloc | apply pw_below_drewN | apply below_drew1) | exact HB.out))⟩

end Go.Proofs.Ytkgjmajabgpadaa
