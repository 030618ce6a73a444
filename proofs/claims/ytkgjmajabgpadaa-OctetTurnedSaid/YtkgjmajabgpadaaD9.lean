import Derived.Test.YtkgjmajabgpadaaD8
namespace Go.Proofs.Ytkgjmajabgpadaa
set_option linter.unusedVariables false
set_option linter.unusedSimpArgs false
open Go.RowKit Go.Proofs.YtkgjmajabgpadaaW.PrintWords Go.Proofs.YtkgjmajabgpadaaW.PrintLast Go.Proofs.YtkgjmajabgpadaaW.PrintMore
attribute [local go_sem] max2_int min2_int max_two min_two
set_option maxHeartbeats 8000000 in
set_option maxRecDepth 100000 in
theorem octetTurned_cut {w : World} (v0 : Value) (l0 : List Int) (ax ay : Int) (nb : Nat) (h0 : BV w v0 l0) (hb0 : bytesP l0) (wx : (Lit.int .i64 ax).wf = true) (wy : (Lit.int .i64 ay).wf = true) (hnb : nb < 65536) (hcut : 509 < l0.length) :
    Calls Try.prog 5 #[v0, .agg #[.int .i64 ax, .int .i64 ay], .int .u16 (nb : Int)] w fun e w' => e = .returned (.bool true) ∧ Below w.heap.size w w' := by
  obtain ⟨A0, c0, rfl, hc0, hr0⟩ := h0
  obtain ⟨lb, hlb⟩ : ∃ lb, l0.take 509 = lb := ⟨_, rfl⟩
  have hbs : bytesP lb := hlb ▸ hb0.take 509
  have hlbn : lb.length = 509 := by rw [← hlb, List.length_take]; omega
  have HBY := Aside0.mk hbs
  have H0 := Aside0.mk ((hlb ▸ hr0.take (by omega) : BC w A0 lb).bv (n := 509) (c := c0) (by omega) hlbn)
  have HWX := Aside0.mk wx
  have HWY := Aside0.mk wy
  have hm0 := hr0.max
  have hcr := to_run A0 l0 c0 509 (by omega) hc0
  have z7 : (509 : Int) < (l0.length : Int) := by omega
  have z8 : decide ((509 : Int) < (l0.length : Int)) = true := decide_eq_true z7
  have q70 : ((509 : Int) ≤ (c0 : Int)) = True := eq_true (by omega)
  have HCUT := Aside0.mk (show lb.length ≤ 509 by omega)
  clear hlbn hlb

  have HB := Aside0.mk (Below.refl w.heap.size w)
  obtain ⟨kd, hkd⟩ : ∃ kd, ax % 256 = kd := ⟨_, rfl⟩
  have hkd0 : 0 ≤ kd := by omega
  have hkd1 : kd < 256 := by omega
  have HKE := Aside0.mk hkd
  obtain ⟨hf1, hf2, hf3, hf4⟩ := sealed_frame kd lb hkd0 hkd1 hbs HCUT.out
  have HSEAL := Aside0.mk (sealS_ok kd lb (by omega) (by have := HCUT.out; omega))
  obtain ⟨fr, hfr⟩ : ∃ fr, kd :: lb ++ dig 2 (sumS (kd :: lb) : Nat) = fr := ⟨_, rfl⟩
  rw [hfr] at hf1 hf2 hf3 hf4 HSEAL
  have HFB := Aside0.mk hf2
  have HF0 := Aside0.mk hf3
  have HOPEN := Aside0.mk hf4
  have HFN := Aside0.mk hf1
  have HFP := Aside0.mk (show 0 < fr.length by omega)
  have HFL := Aside0.mk (show fr.length ≤ 512 by have := HCUT.out; omega)
  have hfl : fr.length ≤ 512 := HFL.out
  have HPL0 : 0 ≤ ay % (8 * (fr.length : Int)) := Int.emod_nonneg _ (by omega)
  have HPL1 : ay % (8 * (fr.length : Int)) < 8 * (fr.length : Int) := Int.emod_lt_of_pos _ (by omega)
  obtain ⟨p, hp⟩ : ∃ p : Nat, ay % (8 * (fr.length : Int)) = (p : Int) := ⟨(ay % (8 * (fr.length : Int))).toNat, by omega⟩
  have HPE := Aside0.mk hp
  have HPL := Aside0.mk (show p < 8 * fr.length by omega)
  clear hkd hf1 hf2 hf3 hf4 hfr HPL0 HPL1 hp
  clear hb0 hbs hr0 hc0 wx wy hcut
  go_enter Try.func5, Try.ntmps5
  go_wp2_with (first | (go_at_call 29; (with_reducible refine (works1_c _).mono ?_); rintro e wE ⟨rfl, hb⟩; have n_ := Aside0.mk (below_step (by repeat (first | (with_reducible first | exact HB.out | apply below_alloc | apply pw_below_drewN | apply below_drew1) | exact HB.out)) hb); clear HB; have HB := n_; have HCL := Aside0.mk (show wE.cell? ⟨w.heap.size, 0, none⟩ = some (.int .i64 ax) ∧ wE.cell? ⟨w.heap.size, 1, none⟩ = some (.int .i64 ay) from ⟨(hb.cell (p := ⟨w.heap.size, 0, none⟩) (by simp)).trans (by simp), (hb.cell (p := ⟨w.heap.size, 1, none⟩) (by simp)).trans (by simp)⟩); have hc0 := HCL.out.1; have hc1 := HCL.out.2; clear n_ hb) | (go_at_call 32; (with_reducible refine (bring_c ax 256 _ HWX.out (by decide) (by decide)).mono ?_); rintro e w_q ⟨rfl, rfl⟩; rw [HKE.out]) | (go_at_call 24; (with_reducible refine (oseal_v kd _ lb fr 0 _ ?s0 ?s1 ?s2 HSEAL.out).mono ?_); (case s0 => exact H0.out.mv (by repeat (first | (with_reducible first | exact HB.out | apply below_alloc | apply pw_below_drewN | apply below_drew1) | exact HB.out))); (case s1 => exact HBY.out); (case s2 => have := HCUT.out; omega); rintro e wS ⟨vf, rfl, ho, hb⟩; obtain ⟨A, cap, g, hvx, hg, hA, _⟩ := ho.form; subst hvx; obtain ⟨hA1, _⟩ := hA HFP.out; subst hA1; have HGW := Aside0.mk (show w.heap.size ≤ g from Nat.le_trans (below_size (by repeat (first | (with_reducible first | exact HB.out | apply below_alloc | apply pw_below_drewN | apply below_drew1) | exact HB.out))) hg); have HO := Aside0.mk (ho.lower (below_size (by repeat (first | (with_reducible first | exact HB.out | apply below_alloc | apply pw_below_drewN | apply below_drew1) | exact HB.out)))); have n_ := Aside0.mk (below_step (by repeat (first | (with_reducible first | exact HB.out | apply below_alloc | apply pw_below_drewN | apply below_drew1) | exact HB.out)) hb); have HB := n_; have hc1' := (hb.cell (p := ⟨w.heap.size, 1, none⟩) (World.block_lt_of_cell? _ _ hc1)).trans hc1; clear n_ ho hb hc0 hc1 hg hA) | (go_at_call 30; (with_reducible refine (oopen_v _ fr kd lb 0 _ ?s0 ?s1 HOPEN.out).mono ?_); (case s0 => exact HO.out.bv); (case s1 => exact HFB.out); rintro e wO ⟨vx, rfl, ho, hb⟩; have HX := Aside0.mk ho; have HO1 := Aside0.mk (HO.out.mv hb); have n_ := Aside0.mk (below_step HB.out hb); clear HO; have HO := HO1; have HB := n_; have hc2' := (hb.cell (p := ⟨w.heap.size, 1, none⟩) (World.block_lt_of_cell? _ _ hc1')).trans hc1'; clear n_ ho hb hc1' HO1) | (go_at_call 26; (with_reducible refine (eqb_v _ _ lb lb _ ?s0 ?s1 rfl).mono ?_); (case s0 => exact HX.out.bv); (case s1 => exact H0.out.mv HB.out); rintro e w_26 ⟨rfl, rfl⟩) | (go_at_call 32; (with_reducible refine (bring_c ay (8 * (fr.length : Int)) _ HWY.out ?s0 ?s1).mono ?_); (case s0 => have := HFP.out; omega); (case s1 => have := HFL.out; omega); rintro e w_q ⟨rfl, rfl⟩; rw [HPE.out]))
  have HOQ := HO
  clear HO
  go_loopg [14, 15] 16 (fun k v14 v15 w' => ∃ i : Nat, i + k = 16 ∧ p + i ≤ 8 * fr.length ∧ v15 = .int .i64 i ∧ v14 = .bool (turnT nb i) ∧ Aside0 (BR w' w.heap.size (.slice (some ⟨g, 0, none⟩) fr.length cap) (turnS fr p nb i)) ∧ Aside0 (Below w.heap.size w w'))
  case atStart => exact ⟨0, by omega, by have := HPL.out; omega, rfl, rfl, HOQ, HB⟩
  case round =>
    clear HOQ HB
    obtain ⟨i, hi, hpi, rfl, rfl, HO, HB⟩ := hrel
    by_cases h16 : i < 16
    · by_cases hpn : p + i < 8 * fr.length
      · have y1 : decide ((i : Int) < 16) = true := decide_eq_true (by omega)
        have y2 : decide (i < 16) = true := decide_eq_true h16
        have y3 : decide ((p : Int) + (i : Int) < 8 * (fr.length : Int)) = true := decide_eq_true (by omega)
        obtain ⟨g', rfl⟩ : ∃ g', gk = g' + 1 := ⟨gk - 1, by omega⟩
        have hab := and_bit nb i hnb
        have HSS := Aside0.mk (show turnS fr p nb (i + 1) = if bitOf nb i then flipI (turnS fr p nb i) (p + i) else turnS fr p nb i from rfl)
        have HTT := Aside0.mk (show turnT nb (i + 1) = (turnT nb i || bitOf nb i) from rfl)
        obtain ⟨bt, hbt⟩ : ∃ bt, bitOf nb i = bt := ⟨_, rfl⟩
        rw [hbt] at hab HSS HTT
        clear hbt
        cases bt with
        | false =>
          go_wp2
          go_roundg g'
          case measure => omega
          case rel => exact ⟨i + 1, by omega, by omega, by go_num, by rw [HTT.out, Bool.or_false], ⟨by rw [HSS.out]; exact HO.out⟩, HB⟩
        | true =>
          have HSL := Aside0.mk (turnS_length fr p nb i)
          have HSB := Aside0.mk (turnS_bytes HFB.out p nb i)
          obtain ⟨d, hd⟩ : ∃ d, (p + i) / 8 = d := ⟨_, rfl⟩
          obtain ⟨r, hr⟩ : ∃ r, (p + i) % 8 = r := ⟨_, rfl⟩
          have hdl : d < fr.length := by omega
          have hr8 : r < 8 := by omega
          obtain ⟨m, hm⟩ : ∃ m, 2 ^ (7 - r) = m := ⟨_, rfl⟩
          have hm8 : m < 256 := by rw [← hm]; exact Nat.pow_lt_pow_right (m := 7 - r) (n := 8) (by omega) (by omega)
          have k6 : (128 : Int) / 2 ^ r = (m : Int) := by rw [← hm]; exact shr128 r hr8
          obtain ⟨hc, hf⟩ := HO.out.cell HSL.out d hdl
          have hx := HSB.out.at_ d
          obtain ⟨c, hcx⟩ : ∃ c : Nat, (turnS fr p nb i).getD d 0 = (c : Int) := ⟨((turnS fr p nb i).getD d 0).toNat, by omega⟩
          rw [hcx] at hc hx
          have HC := Aside0.mk hcx
          have hc8 : c < 256 := by omega
          have k7 := u8_xor_nat c m hc8 hm8
          have HD := Aside0.mk hd
          have HR := Aside0.mk hr
          have HM := Aside0.mk hm
          have q1 : ((d : Int) < (fr.length : Int)) = True := eq_true (by omega)
          have HPI := Aside0.mk (show p + i < 4096 by omega)
          have H6 := Aside0.mk k6
          have H7 := Aside0.mk k7
          clear hd hr hm hcx hx k6 k7
          go_wp2
          obtain ⟨k1, k2, k3, k4, k5, k2', k4'⟩ := turn_facts p i d r HD.out HR.out HPI.out
          have k6 := H6.out
          have k7 := H7.out
          refine start_ (n := 20) (S := fun w' => w'.cell? ⟨g, d, none⟩ = some (Value.int .u8 (c : Int))) (ds := [19]) #[false, false, false, false, false, false, false, false, false, false, false, false, false, false, false, false, false, false, false, false] (by kernel_rfl) rfl rfl hc (fun hHeld => ?_)
          refine with_tabW r5_15.tab r5_15.bits (fun HT_ HW_ => ?_)
          refine pure_ (i := 0) (N := some 82) (v := ?_) (a' := ?_) #[true, false, false, false, false, false, false, false, false, false, false, false, false, false, false, false, false, false, false, false] rfl rfl (any_of HT_.out (by kernel_rfl)) (fun _ _ _ h => h) (Or.inl ⟨by rfl, ?_⟩) ?_ ?_
          rotate_left
          · intro w'
            go_simp
            with_reducible rfl
          rotate_left
          · simp only [Act.put, List.setIfInBounds_toArray, List.set_cons_zero, List.set_cons_succ, i64_w, i32_w]
            rfl
          refine pure_ (i := 1) (N := some 83) (v := ?_) (a' := ?_) #[true, true, false, false, false, false, false, false, false, false, false, false, false, false, false, false, false, false, false, false] rfl rfl (any_of HT_.out (by kernel_rfl)) (fun _ _ _ h => h) (Or.inl ⟨by rfl, ?_⟩) ?_ ?_
          rotate_left
          · intro w'
            go_simp
            with_reducible rfl
          rotate_left
          · simp only [Act.put, List.setIfInBounds_toArray, List.set_cons_zero, List.set_cons_succ, i64_w, i32_w]
            rfl
          refine pure_ (i := 2) (N := some 84) (v := ?_) (a' := ?_) #[true, true, true, false, false, false, false, false, false, false, false, false, false, false, false, false, false, false, false, false] rfl rfl (any_of HT_.out (by kernel_rfl)) (fun _ _ _ h => h) (Or.inl ⟨by rfl, ?_⟩) ?_ ?_
          rotate_left
          · intro w'
            go_simp
            with_reducible rfl
          rotate_left
          · simp only [Act.put, List.setIfInBounds_toArray, List.set_cons_zero, List.set_cons_succ, i64_w, i32_w]
            rfl
          refine pure_ (i := 3) (N := some 85) (v := ?_) (a' := ?_) #[true, true, true, true, false, false, false, false, false, false, false, false, false, false, false, false, false, false, false, false] rfl rfl (any_of HT_.out (by kernel_rfl)) (fun _ _ _ h => h) (Or.inl ⟨by rfl, ?_⟩) ?_ ?_
          rotate_left
          · intro w'
            go_simp
            with_reducible rfl
          rotate_left
          · simp only [Act.put, List.setIfInBounds_toArray, List.set_cons_zero, List.set_cons_succ, i64_w, i32_w]
            rfl
          refine pure_ (i := 4) (N := some 86) (v := ?_) (a' := ?_) #[true, true, true, true, true, false, false, false, false, false, false, false, false, false, false, false, false, false, false, false] rfl rfl (any_of HT_.out (by kernel_rfl)) (fun _ _ _ h => h) (Or.inl ⟨by rfl, ?_⟩) ?_ ?_
          rotate_left
          · intro w'
            go_simp
            with_reducible rfl
          rotate_left
          · simp only [Act.put, List.setIfInBounds_toArray, List.set_cons_zero, List.set_cons_succ, i64_w, i32_w]
            rfl
          refine pure_ (i := 5) (N := some 87) (v := ?_) (a' := ?_) #[true, true, true, true, true, true, false, false, false, false, false, false, false, false, false, false, false, false, false, false] rfl rfl (any_of HT_.out (by kernel_rfl)) (fun _ _ _ h => h) (Or.inl ⟨by rfl, ?_⟩) ?_ ?_
          rotate_left
          · intro w'
            go_simp
            with_reducible rfl
          rotate_left
          · simp only [Act.put, List.setIfInBounds_toArray, List.set_cons_zero, List.set_cons_succ, i64_w, i32_w]
            rfl
          refine pure_ (i := 6) (N := some 88) (v := ?_) (a' := ?_) #[true, true, true, true, true, true, true, false, false, false, false, false, false, false, false, false, false, false, false, false] rfl rfl (any_of HT_.out (by kernel_rfl)) (fun _ _ _ h => h) (Or.inl ⟨by rfl, ?_⟩) ?_ ?_
          rotate_left
          · intro w'
            go_simp
            with_reducible rfl
          rotate_left
          · simp only [Act.put, List.setIfInBounds_toArray, List.set_cons_zero, List.set_cons_succ, i64_w, i32_w]
            rfl
          refine pure_ (i := 7) (N := some 89) (v := ?_) (a' := ?_) #[true, true, true, true, true, true, true, true, false, false, false, false, false, false, false, false, false, false, false, false] rfl rfl (any_of HT_.out (by kernel_rfl)) (fun _ _ _ h => h) (Or.inl ⟨by rfl, ?_⟩) ?_ ?_
          rotate_left
          · intro w'
            go_simp
            with_reducible rfl
          rotate_left
          · simp only [Act.put, List.setIfInBounds_toArray, List.set_cons_zero, List.set_cons_succ, i64_w, i32_w]
            rfl
          refine pure_ (i := 8) (N := some 90) (v := ?_) (a' := ?_) #[true, true, true, true, true, true, true, true, true, false, false, false, false, false, false, false, false, false, false, false] rfl rfl (any_of HT_.out (by kernel_rfl)) (fun _ _ _ h => h) (Or.inl ⟨by rfl, ?_⟩) ?_ ?_
          rotate_left
          · intro w'
            go_simp
            with_reducible rfl
          rotate_left
          · simp only [Act.put, List.setIfInBounds_toArray, List.set_cons_zero, List.set_cons_succ, i64_w, i32_w]
            rfl
          refine pure_ (i := 9) (N := some 91) (v := ?_) (a' := ?_) #[true, true, true, true, true, true, true, true, true, true, false, false, false, false, false, false, false, false, false, false] rfl rfl (any_of HT_.out (by kernel_rfl)) (fun _ _ _ h => h) (Or.inl ⟨by rfl, ?_⟩) ?_ ?_
          rotate_left
          · intro w'
            go_simp
            with_reducible rfl
          rotate_left
          · simp only [Act.put, List.setIfInBounds_toArray, List.set_cons_zero, List.set_cons_succ, i64_w, i32_w]
            rfl
          refine pure_ (i := 10) (N := some 92) (v := ?_) (a' := ?_) #[true, true, true, true, true, true, true, true, true, true, true, false, false, false, false, false, false, false, false, false] rfl rfl (any_of HT_.out (by kernel_rfl)) (fun _ _ _ h => h) (Or.inl ⟨by rfl, ?_⟩) ?_ ?_
          rotate_left
          · intro w'
            go_simp
            with_reducible rfl
          rotate_left
          · simp only [Act.put, List.setIfInBounds_toArray, List.set_cons_zero, List.set_cons_succ, i64_w, i32_w]
            rfl
          refine pure_ (i := 12) (N := some 94) (v := ?_) (a' := ?_) #[true, true, true, true, true, true, true, true, true, true, true, false, true, false, false, false, false, false, false, false] rfl rfl (any_of HT_.out (by kernel_rfl)) (fun _ _ _ h => h) (Or.inl ⟨by rfl, ?_⟩) ?_ ?_
          rotate_left
          · intro w'
            go_simp
            with_reducible rfl
          rotate_left
          · simp only [Act.put, List.setIfInBounds_toArray, List.set_cons_zero, List.set_cons_succ, i64_w, i32_w]
            rfl
          refine pure_ (i := 13) (N := some 95) (v := ?_) (a' := ?_) #[true, true, true, true, true, true, true, true, true, true, true, false, true, true, false, false, false, false, false, false] rfl rfl (any_of HT_.out (by kernel_rfl)) (fun _ _ _ h => h) (Or.inl ⟨by rfl, ?_⟩) ?_ ?_
          rotate_left
          · intro w'
            go_simp
            with_reducible rfl
          rotate_left
          · simp only [Act.put, List.setIfInBounds_toArray, List.set_cons_zero, List.set_cons_succ, i64_w, i32_w]
            rfl
          refine pure_ (i := 14) (N := some 96) (v := ?_) (a' := ?_) #[true, true, true, true, true, true, true, true, true, true, true, false, true, true, true, false, false, false, false, false] rfl rfl (any_of HT_.out (by kernel_rfl)) (fun _ _ _ h => h) (Or.inl ⟨by rfl, ?_⟩) ?_ ?_
          rotate_left
          · intro w'
            go_simp
            with_reducible rfl
          rotate_left
          · simp only [Act.put, List.setIfInBounds_toArray, List.set_cons_zero, List.set_cons_succ, i64_w, i32_w]
            rfl
          refine pure_ (i := 15) (N := some 97) (v := ?_) (a' := ?_) #[true, true, true, true, true, true, true, true, true, true, true, false, true, true, true, true, false, false, false, false] rfl rfl (any_of HT_.out (by kernel_rfl)) (fun _ _ _ h => h) (Or.inl ⟨by rfl, ?_⟩) ?_ ?_
          rotate_left
          · intro w'
            go_simp
            with_reducible rfl
          rotate_left
          · simp only [Act.put, List.setIfInBounds_toArray, List.set_cons_zero, List.set_cons_succ, i64_w, i32_w]
            rfl
          refine pure_ (i := 16) (N := some 98) (v := ?_) (a' := ?_) #[true, true, true, true, true, true, true, true, true, true, true, false, true, true, true, true, true, false, false, false] rfl rfl (any_of HT_.out (by kernel_rfl)) (fun _ _ _ h => h) (Or.inl ⟨by rfl, ?_⟩) ?_ ?_
          rotate_left
          · intro w'
            go_simp
            with_reducible rfl
          rotate_left
          · simp only [Act.put, List.setIfInBounds_toArray, List.set_cons_zero, List.set_cons_succ, i64_w, i32_w]
            rfl
          refine take_ (i := 11) (N := some 93) (v := ?_) (a' := ?_) #[true, true, true, true, true, true, true, true, true, true, true, true, true, true, true, true, true, false, false, false] rfl rfl (take_ofW HT_.out HW_.out (by kernel_rfl)) (fun _ _ _ h => h) (Or.inl ⟨by rfl, ?_⟩) hHeld ?_ ?_
          rotate_left
          · rintro w' s0
            go_simp
            with_reducible rfl
          rotate_left
          · simp only [Act.put, List.setIfInBounds_toArray, List.set_cons_zero, List.set_cons_succ, i64_w, i32_w]
            rfl
          refine pure_ (i := 17) (N := some 99) (v := ?_) (a' := ?_) #[true, true, true, true, true, true, true, true, true, true, true, true, true, true, true, true, true, true, false, false] rfl rfl (any_of HT_.out (by kernel_rfl)) (fun _ _ _ h => h) (Or.inl ⟨by rfl, ?_⟩) ?_ ?_
          rotate_left
          · intro w'
            go_simp
            with_reducible rfl
          rotate_left
          · simp only [Act.put, List.setIfInBounds_toArray, List.set_cons_zero, List.set_cons_succ, i64_w, i32_w]
            rfl
          refine pure_ (i := 18) (N := some 100) (v := ?_) (a' := ?_) #[true, true, true, true, true, true, true, true, true, true, true, true, true, true, true, true, true, true, true, false] rfl rfl (any_of HT_.out (by kernel_rfl)) (fun _ _ _ h => h) (Or.inl ⟨by rfl, ?_⟩) ?_ ?_
          rotate_left
          · intro w'
            go_simp
            with_reducible rfl
          rotate_left
          · simp only [Act.put, List.setIfInBounds_toArray, List.set_cons_zero, List.set_cons_succ, i64_w, i32_w]
            rfl
          refine last_ (i := 19) (N := none) #[true, true, true, true, true, true, true, true, true, true, true, true, true, true, true, true, true, true, true, true] rfl rfl (one_of HT_.out (by kernel_rfl)) (by decide) (fun K hK => ?_)
          refine skip_ (w1 := ?_) (by rfl) rfl ?_ ?_
          rotate_left
          · go_simp
            with_reducible rfl
          refine hK.out _ _ ?_
          clear hK K
          refine done_ (done_of HT_.out (by kernel_rfl)) ?_

          clear k1 k2 k3 k4 k5 k2' k4' k6 k7
          go_wp2
          go_roundg g'
          case measure => omega
          case rel => exact ⟨i + 1, by omega, by omega, by go_num, by rw [HTT.out, Bool.or_true], ⟨by rw [HSS.out]; (first | rw [if_pos rfl] | rw [if_pos trivial]); unfold flipI; rw [HD.out, HR.out, HM.out, HC.out, Int.toNat_natCast, Nat.min_eq_left (Nat.le_of_lt hr8), H6.out, H7.out]; exact (HO.out.put HSL.out d _).drew⟩, ⟨(HB.out.setCell HGW.out _).drew⟩⟩
      · have y1 : decide ((i : Int) < 16) = true := decide_eq_true (by omega)
        have y2 : decide (i < 16) = true := decide_eq_true h16
        have y3 : decide ((p : Int) + (i : Int) < 8 * (fr.length : Int)) = false := decide_eq_false (by omega)
        obtain ⟨tt, htt⟩ : ∃ tt, turnT nb i = tt := ⟨_, rfl⟩
        rw [htt]
        cases tt with
        | false =>
          have HOP := Aside0.mk (show openS (turnS fr p nb i) = (kd, lb, 0) by rw [turnS_same fr p nb i htt]; exact HOPEN.out)
          clear htt
          go_wp2_with (first | (go_at_call 30; (with_reducible refine (oopen_v _ (turnS fr p nb i) kd lb 0 _ ?s0 ?s1 HOP.out).mono ?_); (case s0 => exact HO.out.bv); (case s1 => exact turnS_bytes HFB.out p nb i); rintro e wO ⟨vx, rfl, ho, hb⟩; have n_ := Aside0.mk (below_step HB.out hb); have HB := n_; clear n_ ho hb))
          go_ret
          exact ⟨rfl, HB.out⟩
        | true =>
          have HOP := Aside0.mk (turned_open HFN.out (by have := HFL.out; omega) (by have := HFN.out; omega) HFB.out HF0.out p nb i (by omega) hpi htt)
          clear htt
          go_wp2_with (first | (go_at_call 30; (with_reducible refine (oopen_v _ (turnS fr p nb i) 0 [] 30 _ ?s0 ?s1 HOP.out).mono ?_); (case s0 => exact HO.out.bv); (case s1 => exact turnS_bytes HFB.out p nb i); rintro e wO ⟨vx, rfl, ho, hb⟩; have n_ := Aside0.mk (below_step HB.out hb); have HB := n_; clear n_ ho hb))
          go_ret
          exact ⟨rfl, HB.out⟩
    · have y1 : decide ((i : Int) < 16) = false := decide_eq_false (by omega)
      have y2 : decide (i < 16) = false := decide_eq_false h16
      obtain ⟨tt, htt⟩ : ∃ tt, turnT nb i = tt := ⟨_, rfl⟩
      rw [htt]
      cases tt with
      | false =>
        have HOP := Aside0.mk (show openS (turnS fr p nb i) = (kd, lb, 0) by rw [turnS_same fr p nb i htt]; exact HOPEN.out)
        clear htt
        go_wp2_with (first | (go_at_call 30; (with_reducible refine (oopen_v _ (turnS fr p nb i) kd lb 0 _ ?s0 ?s1 HOP.out).mono ?_); (case s0 => exact HO.out.bv); (case s1 => exact turnS_bytes HFB.out p nb i); rintro e wO ⟨vx, rfl, ho, hb⟩; have n_ := Aside0.mk (below_step HB.out hb); have HB := n_; clear n_ ho hb))
        go_ret
        exact ⟨rfl, HB.out⟩
      | true =>
        have HOP := Aside0.mk (turned_open HFN.out (by have := HFL.out; omega) (by have := HFN.out; omega) HFB.out HF0.out p nb i (by omega) hpi htt)
        clear htt
        go_wp2_with (first | (go_at_call 30; (with_reducible refine (oopen_v _ (turnS fr p nb i) 0 [] 30 _ ?s0 ?s1 HOP.out).mono ?_); (case s0 => exact HO.out.bv); (case s1 => exact turnS_bytes HFB.out p nb i); rintro e wO ⟨vx, rfl, ho, hb⟩; have n_ := Aside0.mk (below_step HB.out hb); have HB := n_; clear n_ ho hb))
        go_ret
        exact ⟨rfl, HB.out⟩
theorem octetTurned_walk {w : World} (v0 : Value) (l0 : List Int) (h0 : BV w v0 l0) (hb0 : bytesP l0) (hy0 : l0.length * 1 ≤ 140737488351232) (ax ay : Int) (wx : (Lit.int .i64 ax).wf = true) (wy : (Lit.int .i64 ay).wf = true) (nb : Int) (hnb : (Lit.int .u16 nb).wf = true) :
    Calls Try.prog 5 #[v0, .agg #[.int .i64 ax, .int .i64 ay], .int .u16 nb] w fun e w' => e = .returned (.bool true) ∧ Below w.heap.size w w' := by
  have hn := wf_u16 hnb
  obtain ⟨m, rfl⟩ : ∃ m : Nat, nb = (m : Int) := ⟨nb.toNat, by omega⟩
  by_cases h : l0.length ≤ 509
  · exact octetTurned_whole v0 l0 ax ay m h0 hb0 wx wy (by omega) h
  · exact octetTurned_cut v0 l0 ax ay m h0 hb0 wx wy (by omega) (by omega)

end Go.Proofs.Ytkgjmajabgpadaa
