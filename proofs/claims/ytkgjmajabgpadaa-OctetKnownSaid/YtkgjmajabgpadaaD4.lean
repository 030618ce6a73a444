import Derived.Test.YtkgjmajabgpadaaC3
import Derived.Test.YtkgjmajabgpadaaD1
namespace Go.Proofs.Ytkgjmajabgpadaa
set_option linter.unusedVariables false
set_option linter.unusedSimpArgs false
open Go.RowKit Go.Proofs.YtkgjmajabgpadaaW.PrintWords Go.Proofs.YtkgjmajabgpadaaW.PrintLast Go.Proofs.YtkgjmajabgpadaaW.PrintMore
def r8_6.T : Bool × List (List Nat × List Nat) := (true, [([], []), ([], []), ([], []), ([1, 2], [1, 2]), ([3], [3]), ([0, 4], [0, 4]), ([], []), ([], []), ([], []), ([7, 8], [7, 8]), ([9], [9]), ([6, 10, 5], [6, 10]), ([5, 11], [5, 11])])
def r8_6.B : List Nat := [0, 0, 0, 6, 14, 31, 0, 0, 0, 384, 896, 2047, 4095]
theorem r8_6.tab : rtab .any (opsOf Try.f8 6) = r8_6.T := by kernel_rfl
theorem r8_6.bits : waitsOk r8_6.T.2 r8_6.B = true := by kernel_rfl
set_option maxHeartbeats 8000000 in
set_option maxRecDepth 100000 in
theorem octetReads_walk {w : World} (v0 : Value) (l0 : List Int) (h0 : BV w v0 l0) (hb : bytesP l0) (hy : l0.length * 1 ≤ 140737488351232) (v2 : Value) (l2 : List Int) (h2 : IV w v2 l2) (h2w : ∀ n ∈ l2, (Lit.int .i64 n).wf = true) (hy2 : l2.length * 8 ≤ 140737488351232) :
    Calls Try.prog 8 #[v0, v2] w fun e w' => e = .returned (.bool true) ∧ Below w.heap.size w w' := by
  obtain ⟨A2, c2, rfl, hc2, hr2⟩ := h2
  have H0 := Aside0.mk h0
  have H2 := Aside0.mk hr2
  have HY := Aside0.mk hy
  have HBY0 := Aside0.mk hb
  have hm2 := hr2.max
  clear h0 hb hy hr2 hc2 h2w hy2
  go_enter Try.func8, Try.ntmps8
  go_wp2_with (first | (go_at_call 19; (with_reducible refine (copyBytes_v _ l0 _ ?s0 ?s1).mono ?_); (case s0 => exact H0.out); (case s1 => have := HY.out; omega); rintro e wA ⟨va, rfl, ho, hb⟩; have HBA := Aside0.mk hb; have HOA := Aside0.mk ho; clear ho hb) | (go_at_call 40; (with_reducible refine (oread_v _ l0 _ ?s0).mono ?_); (case s0 => exact HOA.out.bv); rintro e wB ⟨gr, rfl, hg, hr, hb⟩; have HBB := Aside0.mk (below_step HBA.out hb); have HRB := Aside0.mk hr; have HGR := Aside0.mk (show w.heap.size ≤ gr from by rw [hg]; exact HBA.out.size); clear hr hb hg) | (go_at_call 41; (with_reducible refine (rread_v _ l0 _ ?s0 ?s1).mono ?_); (case s0 => exact H0.out.mv HBB.out); (case s1 => have := HY.out; omega); rintro e wC ⟨gm, rfl, hg, hr, hb⟩; have HB := Aside0.mk (below_step HBB.out hb); have HRM := Aside0.mk hr; have HRR := Aside0.mk (HRB.out.mv hb); have HGM := Aside0.mk (show w.heap.size ≤ gm from Nat.le_trans HBB.out.size hg); have HNE := Aside0.mk (show gm ≠ gr from by have := HRB.out.lt; omega); have HNE2 := Aside0.mk (show gr ≠ gm from fun h => HNE.out h.symm); clear hr hb hg))
  go_loopg [7] l2.length (fun k v7 w' => ∃ (i : Nat) (lc : List Int) (ec : Int), i + k = l2.length ∧ v7 = .int .i64 i ∧ Aside0 (bytesP lc) ∧ Aside0 (lc.length ≤ l0.length) ∧ Aside0 (Rb w' 60 gr lc ec) ∧ Aside0 (Rb w' 85 gm lc ec) ∧ Aside0 (Below w.heap.size w w'))
  case atStart => exact ⟨0, l0, 0, by omega, rfl, HBY0, ⟨Nat.le_refl _⟩, HRR, HRM, HB⟩
  case round =>
    clear HRR HRM HB HRB
    obtain ⟨i, lc, ec, hi, rfl, HBY, HLC, HRR, HRM, HB⟩ := hrel
    by_cases h8 : i < l2.length
    · by_cases h40 : i < 40
      · have z40 : decide ((i : Int) < 40) = true := decide_eq_true (by omega)
        have z41 : decide (i < 40) = true := decide_eq_true (by omega)
        obtain ⟨g', rfl⟩ : ∃ g', gk = g' + 1 := ⟨gk - 1, by omega⟩
        obtain ⟨ad, e1, hx⟩ := H2.out.atN i h8
        subst e1
        obtain ⟨x, hx0⟩ : ∃ x, l2.getD i 0 = x := ⟨_, rfl⟩
        rw [hx0] at hx
        have HX0 := Aside0.mk hx
        replace hx := (HB.out.cell (World.block_lt_of_cell? w _ hx)).trans hx
        have q1 : (i : Int) < (l2.length : Int) := by omega
        replace q1 := eq_true q1
        clear hx0
        by_cases hx0 : 0 ≤ x
        · have z0 : decide (0 ≤ x) = true := decide_eq_true hx0
          obtain ⟨y, l1, e1, hn⟩ : ∃ y l1 e1, rNum lc ec x = (y, l1, e1) := ⟨_, _, _, rfl⟩
          have HN := Aside0.mk hn
          have HBY1 := Aside0.mk (show bytesP l1 by have := rNum_bytes (e := ec) (n := x) HBY.out; rw [hn] at this; exact this)
          have HLC1 := Aside0.mk (show l1.length ≤ l0.length by have := rNum_len lc ec x; rw [hn] at this; exact Nat.le_trans this HLC.out)
          obtain ⟨z, hz⟩ : ∃ z, rEnd l1 e1 = z := ⟨_, rfl⟩
          have HZ := Aside0.mk hz
          clear hn hz hx0
          go_wp2
          refine start_ (n := 13) (S := fun w' => w'.cell? (ad.add i) = some (Value.int .i64 x)) (ds := []) #[false, false, false, false, false, false, false, false, false, false, false, false, false] (by kernel_rfl) rfl rfl ((Below.cell (B := w.heap.size) (w := w) (by repeat (first | (with_reducible first | exact HB.out | apply below_alloc | apply pw_below_drewN | apply below_drew1) | exact HB.out)) (World.block_lt_of_cell? w _ HX0.out)).trans HX0.out) (fun hHeld => ?_)
          refine with_tabW r8_6.tab r8_6.bits (fun HT_ HW_ => ?_)
          refine pure_ (i := 0) (N := some 28) (v := ?_) (a' := ?_) #[true, false, false, false, false, false, false, false, false, false, false, false, false] rfl rfl (any_of HT_.out (by kernel_rfl)) (fun _ _ _ h => h) (Or.inl ⟨by rfl, ?_⟩) ?_ ?_
          rotate_left
          · intro w'
            go_simp
            with_reducible rfl
          rotate_left
          · simp only [Act.put, List.setIfInBounds_toArray, List.set_cons_zero, List.set_cons_succ, i64_w, i32_w]
            rfl
          refine pure_ (i := 1) (N := some 29) (v := ?_) (a' := ?_) #[true, true, false, false, false, false, false, false, false, false, false, false, false] rfl rfl (any_of HT_.out (by kernel_rfl)) (fun _ _ _ h => h) (Or.inl ⟨by rfl, ?_⟩) ?_ ?_
          rotate_left
          · intro w'
            go_simp
            with_reducible rfl
          rotate_left
          · simp only [Act.put, List.setIfInBounds_toArray, List.set_cons_zero, List.set_cons_succ, i64_w, i32_w]
            rfl
          refine pure_ (i := 2) (N := some 30) (v := ?_) (a' := ?_) #[true, true, true, false, false, false, false, false, false, false, false, false, false] rfl rfl (any_of HT_.out (by kernel_rfl)) (fun _ _ _ h => h) (Or.inl ⟨by rfl, ?_⟩) ?_ ?_
          rotate_left
          · intro w'
            go_simp
            with_reducible rfl
          rotate_left
          · simp only [Act.put, List.setIfInBounds_toArray, List.set_cons_zero, List.set_cons_succ, i64_w, i32_w]
            rfl
          refine pure_ (i := 3) (N := some 31) (v := ?_) (a' := ?_) #[true, true, true, true, false, false, false, false, false, false, false, false, false] rfl rfl (any_of HT_.out (by kernel_rfl)) (fun _ _ _ h => h) (Or.inl ⟨by rfl, ?_⟩) ?_ ?_
          rotate_left
          · intro w'
            go_simp
            with_reducible rfl
          rotate_left
          · simp only [Act.put, List.setIfInBounds_toArray, List.set_cons_zero, List.set_cons_succ, i64_w, i32_w]
            rfl
          refine pure_ (i := 6) (N := some 34) (v := ?_) (a' := ?_) #[true, true, true, true, false, false, true, false, false, false, false, false, false] rfl rfl (any_of HT_.out (by kernel_rfl)) (fun _ _ _ h => h) (Or.inl ⟨by rfl, ?_⟩) ?_ ?_
          rotate_left
          · intro w'
            go_simp
            with_reducible rfl
          rotate_left
          · simp only [Act.put, List.setIfInBounds_toArray, List.set_cons_zero, List.set_cons_succ, i64_w, i32_w]
            rfl
          refine pure_ (i := 7) (N := some 35) (v := ?_) (a' := ?_) #[true, true, true, true, false, false, true, true, false, false, false, false, false] rfl rfl (any_of HT_.out (by kernel_rfl)) (fun _ _ _ h => h) (Or.inl ⟨by rfl, ?_⟩) ?_ ?_
          rotate_left
          · intro w'
            go_simp
            with_reducible rfl
          rotate_left
          · simp only [Act.put, List.setIfInBounds_toArray, List.set_cons_zero, List.set_cons_succ, i64_w, i32_w]
            rfl
          refine pure_ (i := 8) (N := some 36) (v := ?_) (a' := ?_) #[true, true, true, true, false, false, true, true, true, false, false, false, false] rfl rfl (any_of HT_.out (by kernel_rfl)) (fun _ _ _ h => h) (Or.inl ⟨by rfl, ?_⟩) ?_ ?_
          rotate_left
          · intro w'
            go_simp
            with_reducible rfl
          rotate_left
          · simp only [Act.put, List.setIfInBounds_toArray, List.set_cons_zero, List.set_cons_succ, i64_w, i32_w]
            rfl
          refine pure_ (i := 9) (N := some 37) (v := ?_) (a' := ?_) #[true, true, true, true, false, false, true, true, true, true, false, false, false] rfl rfl (any_of HT_.out (by kernel_rfl)) (fun _ _ _ h => h) (Or.inl ⟨by rfl, ?_⟩) ?_ ?_
          rotate_left
          · intro w'
            go_simp
            with_reducible rfl
          rotate_left
          · simp only [Act.put, List.setIfInBounds_toArray, List.set_cons_zero, List.set_cons_succ, i64_w, i32_w]
            rfl
          refine take_ (i := 4) (N := some 32) (v := ?_) (a' := ?_) #[true, true, true, true, true, false, true, true, true, true, false, false, false] rfl rfl (take_ofW HT_.out HW_.out (by kernel_rfl)) (fun _ _ _ h => h) (Or.inl ⟨by rfl, ?_⟩) hHeld ?_ ?_
          rotate_left
          · rintro w' s0
            go_simp
            with_reducible rfl
          rotate_left
          · simp only [Act.put, List.setIfInBounds_toArray, List.set_cons_zero, List.set_cons_succ, i64_w, i32_w]
            rfl
          refine take_ (i := 10) (N := some 38) (v := ?_) (a' := ?_) #[true, true, true, true, true, false, true, true, true, true, true, false, false] rfl rfl (take_ofW HT_.out HW_.out (by kernel_rfl)) (fun _ _ _ h => h) (Or.inl ⟨by rfl, ?_⟩) hHeld ?_ ?_
          rotate_left
          · rintro w' s0
            go_simp
            with_reducible rfl
          rotate_left
          · simp only [Act.put, List.setIfInBounds_toArray, List.set_cons_zero, List.set_cons_succ, i64_w, i32_w]
            rfl
          refine one_ (i := 5) (N := some 33) #[true, true, true, true, true, true, true, true, true, true, true, false, false] rfl rfl (one_of HT_.out (by kernel_rfl)) (by decide) (fun K hK => ?_)
          refine goes_ Try.func42 (by kernel_rfl) rfl #[(.pointer (some ⟨gr, 0, none⟩)), (.int .i64 x)] (by rfl) rfl rfl (by (try simp only [List.map_toArray, List.map_cons, List.map_nil]); first | done | rfl) ?_
          with_reducible refine (onum_c gr lc ec x y (l1, e1) _ ?s0 ?s1 ?s2).mono ?_
          (case s0 => exact (by repeat (first | (with_reducible first | exact HRR.out | apply Rb.alloc | apply Rb.drewN | apply Rb.drew))))
          (case s1 => exact HBY.out)
          (case s2 => exact HN.out)
          rintro e w_42 ⟨rfl, hr, hk⟩
          refine ⟨_, rfl, ?_⟩
          have HM1 := Aside0.mk (Rb.kp (by repeat (first | (with_reducible first | exact HRM.out | apply Rb.alloc | apply Rb.drewN | apply Rb.drew))) (by repeat (first | (with_reducible first | exact HRR.out | apply Rb.alloc | apply Rb.drewN | apply Rb.drew))) hk HNE.out)
          have HR1 := Aside0.mk hr
          have n_ := Aside0.mk (below_kp (by repeat (first | (with_reducible first | exact HB.out | apply below_alloc | apply pw_below_drewN | apply below_drew1) | exact HB.out)) hk HGR.out (below_size (by repeat (first | (with_reducible first | exact HB.out | apply below_alloc | apply pw_below_drewN | apply below_drew1) | exact HB.out))))
          have HB := n_
          clear n_ hk hr
          refine hK.out _ _ ((Below.cell (B := w.heap.size) (w := w) HB.out (World.block_lt_of_cell? w _ HX0.out)).trans HX0.out) (fun hHeld => ?_)
          clear hK K
          refine norm_ (a' := ?_) ?_ ?_
          rotate_left
          · show Act.put _ (some 33) _ = _
            simp only [Act.put, List.setIfInBounds_toArray, List.set_cons_zero, List.set_cons_succ, i64_w, i32_w]
            rfl
          refine one_ (i := 11) (N := some 39) #[true, true, true, true, true, true, true, true, true, true, true, true, false] rfl rfl (one_of HT_.out (by kernel_rfl)) (by decide) (fun K hK => ?_)
          refine goes_ Try.func43 (by kernel_rfl) rfl #[(.pointer (some ⟨gm, 0, none⟩)), (.int .i64 x)] (by rfl) rfl rfl (by (try simp only [List.map_toArray, List.map_cons, List.map_nil]); first | done | rfl) ?_
          with_reducible refine (rnum_c gm lc ec x y (l1, e1) _ ?s0 ?s1 ?s2).mono ?_
          (case s0 => exact (by repeat (first | (with_reducible first | exact HM1.out | apply Rb.alloc | apply Rb.drewN | apply Rb.drew))))
          (case s1 => exact HBY.out)
          (case s2 => exact HN.out)
          rintro e w_43 ⟨rfl, hr, hk⟩
          refine ⟨_, rfl, ?_⟩
          have HR2 := Aside0.mk (Rb.kp (by repeat (first | (with_reducible first | exact HR1.out | apply Rb.alloc | apply Rb.drewN | apply Rb.drew))) (by repeat (first | (with_reducible first | exact HM1.out | apply Rb.alloc | apply Rb.drewN | apply Rb.drew))) hk HNE2.out)
          have HM2 := Aside0.mk hr
          have n_ := Aside0.mk (below_kp (by repeat (first | (with_reducible first | exact HB.out | apply below_alloc | apply pw_below_drewN | apply below_drew1) | exact HB.out)) hk HGM.out (below_size (by repeat (first | (with_reducible first | exact HB.out | apply below_alloc | apply pw_below_drewN | apply below_drew1) | exact HB.out))))
          have HB := n_
          clear n_ hk hr
          refine hK.out _ _ ((Below.cell (B := w.heap.size) (w := w) HB.out (World.block_lt_of_cell? w _ HX0.out)).trans HX0.out) (fun hHeld => ?_)
          clear hK K
          refine norm_ (a' := ?_) ?_ ?_
          rotate_left
          · show Act.put _ (some 39) _ = _
            simp only [Act.put, List.setIfInBounds_toArray, List.set_cons_zero, List.set_cons_succ, i64_w, i32_w]
            rfl
          refine pure_ (i := 12) (N := some 40) (v := ?_) (a' := ?_) #[true, true, true, true, true, true, true, true, true, true, true, true, true] rfl rfl (any_of HT_.out (by kernel_rfl)) (fun _ _ _ h => h) (Or.inl ⟨by rfl, ?_⟩) ?_ ?_
          rotate_left
          · intro w'
            go_simp
            with_reducible rfl
          rotate_left
          · simp only [Act.put, List.setIfInBounds_toArray, List.set_cons_zero, List.set_cons_succ, i64_w, i32_w]
            rfl
          refine done_ (done_of HT_.out (by kernel_rfl)) ?_

          go_wp2_with (first | (go_at_call 46; (with_reducible refine (oleft_c gr l1 e1 _ ?s0).mono ?_); (case s0 => exact (by repeat (first | (with_reducible first | exact HR2.out | apply Rb.alloc | apply Rb.drewN | apply Rb.drew)))); rintro e w1 ⟨rfl, rfl⟩) | (go_at_call 47; (with_reducible refine (rleft_c gm l1 e1 _ ?s0).mono ?_); (case s0 => exact (by repeat (first | (with_reducible first | exact HM2.out | apply Rb.alloc | apply Rb.drewN | apply Rb.drew)))); rintro e w1 ⟨rfl, rfl⟩) | (go_at_call 48; (with_reducible refine (oerr_c gr l1 e1 _ ?s0).mono ?_); (case s0 => exact (by repeat (first | (with_reducible first | exact HR2.out | apply Rb.alloc | apply Rb.drewN | apply Rb.drew)))); rintro e w1 ⟨rfl, rfl⟩) | (go_at_call 49; (with_reducible refine (rerr_c gm l1 e1 _ ?s0).mono ?_); (case s0 => exact (by repeat (first | (with_reducible first | exact HM2.out | apply Rb.alloc | apply Rb.drewN | apply Rb.drew)))); rintro e w1 ⟨rfl, rfl⟩) | (go_at_call 50; (with_reducible refine (oend_c gr l1 e1 z _ ?s0 HZ.out).mono ?_); (case s0 => exact (by repeat (first | (with_reducible first | exact HR2.out | apply Rb.alloc | apply Rb.drewN | apply Rb.drew)))); rintro e w1 ⟨rfl, rfl⟩) | (go_at_call 51; (with_reducible refine (rend_c gm l1 e1 z _ ?s0 HZ.out).mono ?_); (case s0 => exact (by repeat (first | (with_reducible first | exact HM2.out | apply Rb.alloc | apply Rb.drewN | apply Rb.drew)))); rintro e w1 ⟨rfl, rfl⟩))
          go_roundg g'
          case measure => omega
          case rel => exact ⟨i + 1, l1, e1, by omega, by go_num, HBY1, HLC1, ⟨(by repeat (first | (with_reducible first | exact HR2.out | apply Rb.alloc | apply Rb.drewN | apply Rb.drew)))⟩, ⟨(by repeat (first | (with_reducible first | exact HM2.out | apply Rb.alloc | apply Rb.drewN | apply Rb.drew)))⟩, ⟨(by repeat (first | (with_reducible first | exact HB.out | apply below_alloc | apply pw_below_drewN | apply below_drew1) | exact HB.out))⟩⟩
        · have z0 : decide (0 ≤ x) = false := decide_eq_false hx0
          obtain ⟨y, l1, e1, hn⟩ : ∃ y l1 e1, rText lc ec = (y, l1, e1) := ⟨_, _, _, rfl⟩
          have HT := Aside0.mk hn
          have HBY1 := Aside0.mk (show bytesP l1 by have := rText_bytes (e := ec) HBY.out; rw [hn] at this; exact this)
          have HLC1 := Aside0.mk (show l1.length ≤ l0.length by have := rText_len lc ec; rw [hn] at this; exact Nat.le_trans this HLC.out)
          obtain ⟨z, hz⟩ : ∃ z, rEnd l1 e1 = z := ⟨_, rfl⟩
          have HZ := Aside0.mk hz
          clear hn hz hx0
          go_wp2_with (first | (go_at_call 44; (with_reducible refine (otext_c gr lc ec y l1 e1 _ ?s0 ?s1 ?s2 ?s3).mono ?_); (case s0 => exact HRR.out); (case s1 => exact HBY.out); (case s2 => have := HLC.out; have := HY.out; omega); (case s3 => exact HT.out); rintro e wX ⟨vx, rfl, ho, hr, hk⟩; have HM1 := Aside0.mk (Rb.kp HRM.out HRR.out hk HNE.out); have HR1 := Aside0.mk hr; have HX1 := Aside0.mk ho; have HXG := Aside0.mk (show ∀ k, vx.ownBlock = some k → k ≠ gm from fun k hk' => by have := ho.block_ge k hk'; have := HRM.out.lt; omega); have n_ := Aside0.mk (below_kp HB.out hk HGR.out HB.out.size); have HB := n_; clear n_ ho hr hk) | (go_at_call 45; (with_reducible refine (rtext_c gm lc ec y l1 e1 _ ?s0 ?s1 ?s2 ?s3).mono ?_); (case s0 => exact HM1.out); (case s1 => exact HBY.out); (case s2 => have := HLC.out; have := HY.out; omega); (case s3 => exact HT.out); rintro e wY ⟨vy, rfl, ho, hr, hk⟩; have HR2 := Aside0.mk (Rb.kp HR1.out HM1.out hk HNE2.out); have HM2 := Aside0.mk hr; have HX2 := Aside0.mk (HX1.out.kp hk HXG.out); have HY2 := Aside0.mk ho; have n_ := Aside0.mk (below_kp HB.out hk HGM.out HB.out.size); have HB := n_; clear n_ ho hr hk) | (go_at_call 26; (with_reducible refine (eqb_v _ _ y y _ ?s0 ?s1 rfl).mono ?_); (case s0 => exact HX2.out.bv); (case s1 => exact HY2.out.bv); rintro e w_26 ⟨rfl, rfl⟩) | (go_at_call 46; (with_reducible refine (oleft_c gr l1 e1 _ ?s0).mono ?_); (case s0 => exact HR2.out); rintro e w1 ⟨rfl, rfl⟩) | (go_at_call 47; (with_reducible refine (rleft_c gm l1 e1 _ ?s0).mono ?_); (case s0 => exact HM2.out); rintro e w1 ⟨rfl, rfl⟩) | (go_at_call 48; (with_reducible refine (oerr_c gr l1 e1 _ ?s0).mono ?_); (case s0 => exact HR2.out); rintro e w1 ⟨rfl, rfl⟩) | (go_at_call 49; (with_reducible refine (rerr_c gm l1 e1 _ ?s0).mono ?_); (case s0 => exact HM2.out); rintro e w1 ⟨rfl, rfl⟩) | (go_at_call 50; (with_reducible refine (oend_c gr l1 e1 z _ ?s0 HZ.out).mono ?_); (case s0 => exact HR2.out); rintro e w1 ⟨rfl, rfl⟩) | (go_at_call 51; (with_reducible refine (rend_c gm l1 e1 z _ ?s0 HZ.out).mono ?_); (case s0 => exact HM2.out); rintro e w1 ⟨rfl, rfl⟩))
          go_roundg g'
          case measure => omega
          case rel => exact ⟨i + 1, l1, e1, by omega, by go_num, HBY1, HLC1, HR2, HM2, HB⟩
      · have z40 : decide ((i : Int) < 40) = false := decide_eq_false (by omega)
        have z41 : decide (i < 40) = false := decide_eq_false (by omega)
        go_wp2_with (first | (go_at_call 29; (with_reducible refine (works1_c _).mono ?_); rintro e wE ⟨rfl, hb⟩; have n_ := Aside0.mk (below_step HB.out hb); clear HB; have HB := n_; clear n_ hb))
        go_ret
        exact ⟨rfl, HB.out⟩
    · go_wp2_with (first | (go_at_call 29; (with_reducible refine (works1_c _).mono ?_); rintro e wE ⟨rfl, hb⟩; have n_ := Aside0.mk (below_step HB.out hb); clear HB; have HB := n_; clear n_ hb))
      go_ret
      exact ⟨rfl, HB.out⟩

end Go.Proofs.Ytkgjmajabgpadaa
