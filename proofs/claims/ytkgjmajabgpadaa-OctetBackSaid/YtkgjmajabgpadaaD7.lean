import Derived.Test.YtkgjmajabgpadaaD6
namespace Go.Proofs.Ytkgjmajabgpadaa
set_option linter.unusedVariables false
set_option linter.unusedSimpArgs false
open Go.RowKit Go.Proofs.YtkgjmajabgpadaaW.PrintWords Go.Proofs.YtkgjmajabgpadaaW.PrintLast Go.Proofs.YtkgjmajabgpadaaW.PrintMore
attribute [local go_sem] max2_int min2_int max_two min_two
set_option maxHeartbeats 8000000 in
set_option maxRecDepth 100000 in
theorem octetBack_cut {w : World} (v0 : Value) (l0 : List Int) (v1 : Value) (l1 : List Int) (v2 : Value) (lt : List Int) (h0 : IV w v0 l0) (h0w : ∀ n ∈ l0, (Lit.int .i64 n).wf = true) (h1 : BV w v1 l1) (hb1 : bytesP l1) (h2 : BV w v2 lt) (hb2 : bytesP lt) (hy2 : lt.length * 1 ≤ 140737488351232) (hcut : 400 < l1.length) :
    Calls Try.prog 9 #[v0, v1, v2] w fun e w' => e = .returned (.bool true) ∧ Below w.heap.size w w' := by
  obtain ⟨A0, c0, rfl, hc0, hr0⟩ := h0
  obtain ⟨A1, c1, rfl, hc1, hr1⟩ := h1
  obtain ⟨A2, c2, rfl, hc2, hr2⟩ := h2
  obtain ⟨ls, hls⟩ : ∃ ls, l1.take 400 = ls := ⟨_, rfl⟩
  have hbs : bytesP ls := hls ▸ hb1.take 400
  have hlsn : ls.length = 400 := by rw [← hls, List.length_take]; omega
  have H0 := Aside0.mk hr0
  have H0W := Aside0.mk h0w
  have H1 := Aside0.mk ((hls ▸ hr1.take (by omega) : BC w A1 ls).bv (n := 400) (c := c1) (by omega) hlsn)
  have HB1 := Aside0.mk hbs
  have H2 := Aside0.mk hr2
  have HB2 := Aside0.mk hb2
  have HY2 := Aside0.mk hy2
  have hm0 := hr0.max
  have hm2 := hr2.max
  have hm1 := hr1.max
  have hcr := to_run A1 l1 c1 400 (by omega) hc1
  have z7 : (400 : Int) < (l1.length : Int) := by omega
  have z8 : decide ((400 : Int) < (l1.length : Int)) = true := decide_eq_true z7
  have q70 : ((400 : Int) ≤ (c1 : Int)) = True := eq_true (by omega)
  have HCUT := Aside0.mk (show ls.length ≤ 400 by omega)
  clear hlsn hls
  have HB := Aside0.mk (Below.refl w.heap.size w)
  clear hr0 h0w hb1 hbs hr1 hc0 hc1 hr2 hc2 hb2 hy2 hcut
  go_enter Try.func9, Try.ntmps9
  go_wp2_with (first | (go_at_call 29; (with_reducible refine (works1_c _).mono ?_); rintro e wE ⟨rfl, hb⟩; have n_ := Aside0.mk (below_step HB.out hb); clear HB; have HB := n_; clear n_ hb) | ((with_reducible refine gate_dst (N := 23) rfl ?_); refine lit_blk (w0 := w) (N := 23) rfl rfl [1, 2, 4] (by first | (go_simp; done) | (go_simp; rfl)) ?_; intro gs w_sz hsz hb hgs; have HSZ := Aside0.mk (show Sz w_sz gs from hsz); have n_ := Aside0.mk (below_step (by repeat (first | (with_reducible first | exact HB.out | apply below_alloc | apply pw_below_drewN | apply below_drew1) | exact HB.out)) hb); have HGS := Aside0.mk (show w.heap.size ≤ gs from by rw [hgs]; exact below_size (by repeat (first | (with_reducible first | exact HB.out | apply below_alloc | apply pw_below_drewN | apply below_drew1) | exact HB.out))); clear HB; have HB := n_; clear n_ hb hsz hgs))
  go_loopg [8, 9] 20 (fun k v8 v9 w' => ∃ (i : Nat) (bs : List Int), i + k = 20 ∧ i ≤ l0.length ∧ v9 = .int .i64 i ∧ Aside0 (bs = encN l0 0 i) ∧ Aside0 (BR w' w.heap.size v8 bs) ∧ Aside0 (Sz w' gs) ∧ Aside0 (Below w.heap.size w w'))
  case atStart => exact ⟨0, [], by omega, by omega, rfl, ⟨rfl⟩, ⟨BR.nil _ _⟩, HSZ, HB⟩
  case round =>
    clear HB HSZ
    obtain ⟨i, bs, hi, hil, rfl, HE, HO, HSZ, HB⟩ := hrel
    by_cases hgo : i < l0.length ∧ i < 20
    · obtain ⟨h8, h20⟩ := hgo
      have z20 : decide ((i : Int) < 20) = true := decide_eq_true (by omega)
      have z21 : decide (i < 20) = true := decide_eq_true (by omega)
      obtain ⟨g', rfl⟩ : ∃ g', gk = g' + 1 := ⟨gk - 1, by omega⟩
      obtain ⟨ad, e1, hx⟩ := H0.out.atN i h8
      subst e1
      obtain ⟨x, hx0⟩ : ∃ x, l0.getD i 0 = x := ⟨_, rfl⟩
      rw [hx0] at hx
      have HX0 := Aside0.mk hx
      have HXE := Aside0.mk hx0
      have HXW := Aside0.mk (H0W.out x (hx0 ▸ getD_mem l0 i h8))
      replace hx := (HB.out.cell (World.block_lt_of_cell? w _ hx)).trans hx
      have q1 : (i : Int) < (l0.length : Int) := by omega
      replace q1 := eq_true q1
      obtain ⟨y, hy0⟩ : ∃ y, brOf l0 i = y := ⟨_, rfl⟩
      have HY0 := Aside0.mk hy0
      have HLB := Aside0.mk (show bs.length ≤ 80 by rw [HE.out]; have := encN_len l0 i 0; omega)
      clear hx0 hy0
      rcases szOf_cases i with hsi | hsi | hsi
      · have hsz1 := HSZ.out.at_ i
        rw [hsi] at hsz1
        have HXM := Aside0.mk (show x % 256 = y by rw [← HY0.out]; unfold brOf; rw [hsi, HXE.out]; rfl)
        have HBR := HXM
        have HPUT := Aside0.mk (show putS bs 1 [y] = (bs ++ dig (szOf i) (brOf l0 i), 0) by have := put_br bs l0 i; rw [hsi, HY0.out] at this; rw [hsi, HY0.out]; exact this)
        have k8 : wrap64 (8 : Int) = 8 := by unfold wrap64; omega
        have k9 : wrap64 (256 : Int) = 256 := by unfold wrap64; omega
        have k10 : IntKind.i64.wrap (256 : Int) = 256 := by rw [i64_w]; exact k9
        go_wp2
        refine start_ (n := 17) (S := fun w' => w'.cell? (ad.add i) = some (Value.int .i64 x)) (ds := []) #[false, false, false, false, false, false, false, false, false, false, false, false, false, false, false, false, false] (by kernel_rfl) rfl rfl ((Below.cell (B := w.heap.size) (w := w) (by repeat (first | (with_reducible first | exact HB.out | apply below_alloc | apply pw_below_drewN | apply below_drew1) | exact HB.out)) (World.block_lt_of_cell? w _ HX0.out)).trans HX0.out) (fun hHeld => ?_)
        refine with_tabW r9_10.tab r9_10.bits (fun HT_ HW_ => ?_)
        refine pure_ (i := 0) (N := some 40) (v := ?_) (a' := ?_) #[true, false, false, false, false, false, false, false, false, false, false, false, false, false, false, false, false] rfl rfl (any_of HT_.out (by kernel_rfl)) (fun _ _ _ h => h) (Or.inl ⟨by rfl, ?_⟩) ?_ ?_
        rotate_left
        · intro w'
          go_simp
          with_reducible rfl
        rotate_left
        · simp only [Act.put, List.setIfInBounds_toArray, List.set_cons_zero, List.set_cons_succ, i64_w, i32_w]
          rfl
        refine pure_ (i := 1) (N := some 41) (v := ?_) (a' := ?_) #[true, true, false, false, false, false, false, false, false, false, false, false, false, false, false, false, false] rfl rfl (any_of HT_.out (by kernel_rfl)) (fun _ _ _ h => h) (Or.inl ⟨by rfl, ?_⟩) ?_ ?_
        rotate_left
        · intro w'
          go_simp
          with_reducible rfl
        rotate_left
        · simp only [Act.put, List.setIfInBounds_toArray, List.set_cons_zero, List.set_cons_succ, i64_w, i32_w]
          rfl
        refine pure_ (i := 2) (N := some 42) (v := ?_) (a' := ?_) #[true, true, true, false, false, false, false, false, false, false, false, false, false, false, false, false, false] rfl rfl (any_of HT_.out (by kernel_rfl)) (fun _ _ _ h => h) (Or.inl ⟨by rfl, ?_⟩) ?_ ?_
        rotate_left
        · intro w'
          go_simp
          with_reducible rfl
        rotate_left
        · simp only [Act.put, List.setIfInBounds_toArray, List.set_cons_zero, List.set_cons_succ, i64_w, i32_w]
          rfl
        refine pure_ (i := 3) (N := some 43) (v := ?_) (a' := ?_) #[true, true, true, true, false, false, false, false, false, false, false, false, false, false, false, false, false] rfl rfl (any_of HT_.out (by kernel_rfl)) (fun _ _ _ h => h) (Or.inl ⟨by rfl, ?_⟩) ?_ ?_
        rotate_left
        · intro w'
          go_simp
          with_reducible rfl
        rotate_left
        · simp only [Act.put, List.setIfInBounds_toArray, List.set_cons_zero, List.set_cons_succ, i64_w, i32_w]
          rfl
        refine pure_ (i := 4) (N := some 44) (v := ?_) (a' := ?_) #[true, true, true, true, true, false, false, false, false, false, false, false, false, false, false, false, false] rfl rfl (any_of HT_.out (by kernel_rfl)) (fun _ _ _ h => h) (Or.inl ⟨by rfl, ?_⟩) ?_ ?_
        rotate_left
        · intro w'
          go_simp
          with_reducible rfl
        rotate_left
        · simp only [Act.put, List.setIfInBounds_toArray, List.set_cons_zero, List.set_cons_succ, i64_w, i32_w]
          rfl
        refine pure_ (i := 6) (N := some 46) (v := ?_) (a' := ?_) #[true, true, true, true, true, false, true, false, false, false, false, false, false, false, false, false, false] rfl rfl (any_of HT_.out (by kernel_rfl)) (fun _ _ _ h => h) (Or.inl ⟨by rfl, ?_⟩) ?_ ?_
        rotate_left
        · intro w'
          go_simp
          with_reducible rfl
        rotate_left
        · simp only [Act.put, List.setIfInBounds_toArray, List.set_cons_zero, List.set_cons_succ, i64_w, i32_w]
          rfl
        refine pure_ (i := 7) (N := some 47) (v := ?_) (a' := ?_) #[true, true, true, true, true, false, true, true, false, false, false, false, false, false, false, false, false] rfl rfl (any_of HT_.out (by kernel_rfl)) (fun _ _ _ h => h) (Or.inl ⟨by rfl, ?_⟩) ?_ ?_
        rotate_left
        · intro w'
          go_simp
          with_reducible rfl
        rotate_left
        · simp only [Act.put, List.setIfInBounds_toArray, List.set_cons_zero, List.set_cons_succ, i64_w, i32_w]
          rfl
        refine pure_ (i := 8) (N := some 48) (v := ?_) (a' := ?_) #[true, true, true, true, true, false, true, true, true, false, false, false, false, false, false, false, false] rfl rfl (any_of HT_.out (by kernel_rfl)) (fun _ _ _ h => h) (Or.inl ⟨by rfl, ?_⟩) ?_ ?_
        rotate_left
        · intro w'
          go_simp
          with_reducible rfl
        rotate_left
        · simp only [Act.put, List.setIfInBounds_toArray, List.set_cons_zero, List.set_cons_succ, i64_w, i32_w]
          rfl
        refine take_ (i := 5) (N := some 45) (v := ?_) (a' := ?_) #[true, true, true, true, true, true, true, true, true, false, false, false, false, false, false, false, false] rfl rfl (take_ofW HT_.out HW_.out (by kernel_rfl)) (fun _ _ _ h => h) (Or.inl ⟨by rfl, ?_⟩) hHeld ?_ ?_
        rotate_left
        · rintro w' s0
          go_simp
          with_reducible rfl
        rotate_left
        · simp only [Act.put, List.setIfInBounds_toArray, List.set_cons_zero, List.set_cons_succ, i64_w, i32_w]
          rfl
        refine one_ (i := 9) (N := some 49) #[true, true, true, true, true, true, true, true, true, true, false, false, false, false, false, false, false] rfl rfl (one_of HT_.out (by kernel_rfl)) (by decide) (fun K hK => ?_)
        refine goes_ Try.func32 (by kernel_rfl) rfl #[(.int .i64 x), (.int .i64 256)] (by rfl) rfl rfl (by (try simp only [List.map_toArray, List.map_cons, List.map_nil]); first | done | rfl) ?_
        with_reducible refine (bring_c x 256 _ HXW.out (by decide) (by decide)).mono ?_
        rintro e w_32 ⟨rfl, rfl⟩
        refine ⟨_, rfl, ?_⟩
        rw [HBR.out]
        refine hK.out _ _ ((Below.cell (B := w.heap.size) (w := w) (by repeat (first | (with_reducible first | exact HB.out | apply below_alloc | apply pw_below_drewN | apply below_drew1) | exact HB.out)) (World.block_lt_of_cell? w _ HX0.out)).trans HX0.out) (fun hHeld => ?_)
        clear hK K
        refine norm_ (a' := ?_) ?_ ?_
        rotate_left
        · show Act.put _ (some 49) _ = _
          simp only [Act.put, List.setIfInBounds_toArray, List.set_cons_zero, List.set_cons_succ, i64_w, i32_w]
          rfl
        refine one_ (i := 10) (N := some 50) #[true, true, true, true, true, true, true, true, true, true, true, false, false, false, false, false, false] rfl rfl (one_of HT_.out (by kernel_rfl)) (by decide) (fun K hK => ?_)
        refine value_ (v := ?_) (w1 := ?_) (by rfl) rfl ?_ ?_
        rotate_left 2
        · go_simp
          first | (with_reducible rfl) | (refine ⟨?_, ?_⟩ <;> with_reducible rfl)
        refine hK.out _ _ ((Below.cell (B := w.heap.size) (w := w) (by repeat (first | (with_reducible first | exact HB.out | apply below_alloc | apply pw_below_drewN | apply below_drew1) | exact HB.out)) (World.block_lt_of_cell? w _ HX0.out)).trans HX0.out) (fun hHeld => ?_)
        clear hK K
        refine norm_ (a' := ?_) ?_ ?_
        rotate_left
        · show Act.put _ (some 50) _ = _
          simp only [Act.put, List.setIfInBounds_toArray, List.set_cons_zero, List.set_cons_succ, i64_w, i32_w]
          rfl
        refine one_ (i := 11) (N := some 51) #[true, true, true, true, true, true, true, true, true, true, true, true, false, false, false, false, false] rfl rfl (one_of HT_.out (by kernel_rfl)) (by decide) (fun K hK => ?_)
        refine goes_ Try.func20 (by kernel_rfl) rfl #[u8, (.int .i64 1), (.slice (some ⟨_, 0, none⟩) 1 1)] (by rfl) rfl rfl (by (try simp only [List.map_toArray, List.map_cons, List.map_nil]); first | done | rfl) ?_
        with_reducible refine (oput_v _ _ bs 1 [y] _ _ _ ?s0 ?s1 ?s2 HPUT.out).mono ?_
        (case s0 => exact BR.bv (by repeat (first | (with_reducible first | exact HO.out | apply BR.alloc | apply BR.drewN | apply BR.drew))))
        (case s1 => exact lit_iv _ [y])
        (case s2 => have := HLB.out; simp only [List.length_cons, List.length_nil]; omega)
        rintro e w_20 ⟨vb, rfl, ho, hb⟩
        refine ⟨_, rfl, ?_⟩
        have HO2 := Aside0.mk (ho.lower (below_size (by repeat (first | (with_reducible first | exact HB.out | apply below_alloc | apply pw_below_drewN | apply below_drew1) | exact HB.out))))
        have HSZ2 := Aside0.mk (Sz.mv (by repeat (first | (with_reducible first | exact HSZ.out | apply Sz.alloc | apply Sz.drewN | apply Sz.drew))) hb)
        have n_ := Aside0.mk (below_step (by repeat (first | (with_reducible first | exact HB.out | apply below_alloc | apply pw_below_drewN | apply below_drew1) | exact HB.out)) hb)
        have HB := n_
        clear n_ hb ho
        refine hK.out _ _ ((Below.cell (B := w.heap.size) (w := w) HB.out (World.block_lt_of_cell? w _ HX0.out)).trans HX0.out) (fun hHeld => ?_)
        clear hK K
        refine norm_ (a' := ?_) ?_ ?_
        rotate_left
        · show Act.put _ (some 51) _ = _
          simp only [Act.put, List.setIfInBounds_toArray, List.set_cons_zero, List.set_cons_succ, i64_w, i32_w]
          rfl
        refine pure_ (i := 12) (N := some 39) (v := ?_) (a' := ?_) #[true, true, true, true, true, true, true, true, true, true, true, true, true, false, false, false, false] rfl rfl (any_of HT_.out (by kernel_rfl)) (fun _ _ _ h => h) (Or.inl ⟨by rfl, ?_⟩) ?_ ?_
        rotate_left
        · intro w'
          go_simp
          with_reducible rfl
        rotate_left
        · simp only [Act.put, List.setIfInBounds_toArray, List.set_cons_zero, List.set_cons_succ, i64_w, i32_w]
          rfl
        refine pure_ (i := 13) (N := some 52) (v := ?_) (a' := ?_) #[true, true, true, true, true, true, true, true, true, true, true, true, true, true, false, false, false] rfl rfl (any_of HT_.out (by kernel_rfl)) (fun _ _ _ h => h) (Or.inl ⟨by rfl, ?_⟩) ?_ ?_
        rotate_left
        · intro w'
          go_simp
          with_reducible rfl
        rotate_left
        · simp only [Act.put, List.setIfInBounds_toArray, List.set_cons_zero, List.set_cons_succ, i64_w, i32_w]
          rfl
        refine pure_ (i := 14) (N := some 53) (v := ?_) (a' := ?_) #[true, true, true, true, true, true, true, true, true, true, true, true, true, true, true, false, false] rfl rfl (any_of HT_.out (by kernel_rfl)) (fun _ _ _ h => h) (Or.inl ⟨by rfl, ?_⟩) ?_ ?_
        rotate_left
        · intro w'
          go_simp
          with_reducible rfl
        rotate_left
        · simp only [Act.put, List.setIfInBounds_toArray, List.set_cons_zero, List.set_cons_succ, i64_w, i32_w]
          rfl
        refine pure_ (i := 15) (N := some 11) (v := ?_) (a' := ?_) #[true, true, true, true, true, true, true, true, true, true, true, true, true, true, true, true, false] rfl rfl (any_of HT_.out (by kernel_rfl)) (fun _ _ _ h => h) (Or.inl ⟨by rfl, ?_⟩) ?_ ?_
        rotate_left
        · intro w'
          go_simp
          with_reducible rfl
        rotate_left
        · simp only [Act.put, List.setIfInBounds_toArray, List.set_cons_zero, List.set_cons_succ, i64_w, i32_w]
          rfl
        refine pure_ (i := 16) (N := some 12) (v := ?_) (a' := ?_) #[true, true, true, true, true, true, true, true, true, true, true, true, true, true, true, true, true] rfl rfl (any_of HT_.out (by kernel_rfl)) (fun _ _ _ h => h) (Or.inl ⟨by rfl, ?_⟩) ?_ ?_
        rotate_left
        · intro w'
          go_simp
          with_reducible rfl
        rotate_left
        · simp only [Act.put, List.setIfInBounds_toArray, List.set_cons_zero, List.set_cons_succ, i64_w, i32_w]
          rfl
        refine done_ (done_of HT_.out (by kernel_rfl)) ?_

        go_wp2
        go_roundg g'
        case measure => omega
        case rel => exact ⟨i + 1, bs ++ dig (szOf i) (brOf l0 i), by omega, by omega, by go_num, ⟨by rw [HE.out, encN_snoc, Nat.zero_add]⟩, ⟨(by repeat (first | (with_reducible first | exact HO2.out | apply BR.alloc | apply BR.drewN | apply BR.drew)))⟩, ⟨(by repeat (first | (with_reducible first | exact HSZ2.out | apply Sz.alloc | apply Sz.drewN | apply Sz.drew)))⟩, ⟨(by repeat (first | (with_reducible first | exact HB.out | apply below_alloc | apply pw_below_drewN | apply below_drew1) | exact HB.out))⟩⟩

      · have hsz1 := HSZ.out.at_ i
        rw [hsi] at hsz1
        have HXM := Aside0.mk (show x % 65536 = y by rw [← HY0.out]; unfold brOf; rw [hsi, HXE.out]; rfl)
        have HBR := HXM
        have HPUT := Aside0.mk (show putS bs 2 [y] = (bs ++ dig (szOf i) (brOf l0 i), 0) by have := put_br bs l0 i; rw [hsi, HY0.out] at this; rw [hsi, HY0.out]; exact this)
        have k8 : wrap64 (16 : Int) = 16 := by unfold wrap64; omega
        have k9 : wrap64 (65536 : Int) = 65536 := by unfold wrap64; omega
        have k10 : IntKind.i64.wrap (65536 : Int) = 65536 := by rw [i64_w]; exact k9
        go_wp2
        refine start_ (n := 17) (S := fun w' => w'.cell? (ad.add i) = some (Value.int .i64 x)) (ds := []) #[false, false, false, false, false, false, false, false, false, false, false, false, false, false, false, false, false] (by kernel_rfl) rfl rfl ((Below.cell (B := w.heap.size) (w := w) (by repeat (first | (with_reducible first | exact HB.out | apply below_alloc | apply pw_below_drewN | apply below_drew1) | exact HB.out)) (World.block_lt_of_cell? w _ HX0.out)).trans HX0.out) (fun hHeld => ?_)
        refine with_tabW r9_10.tab r9_10.bits (fun HT_ HW_ => ?_)
        refine pure_ (i := 0) (N := some 40) (v := ?_) (a' := ?_) #[true, false, false, false, false, false, false, false, false, false, false, false, false, false, false, false, false] rfl rfl (any_of HT_.out (by kernel_rfl)) (fun _ _ _ h => h) (Or.inl ⟨by rfl, ?_⟩) ?_ ?_
        rotate_left
        · intro w'
          go_simp
          with_reducible rfl
        rotate_left
        · simp only [Act.put, List.setIfInBounds_toArray, List.set_cons_zero, List.set_cons_succ, i64_w, i32_w]
          rfl
        refine pure_ (i := 1) (N := some 41) (v := ?_) (a' := ?_) #[true, true, false, false, false, false, false, false, false, false, false, false, false, false, false, false, false] rfl rfl (any_of HT_.out (by kernel_rfl)) (fun _ _ _ h => h) (Or.inl ⟨by rfl, ?_⟩) ?_ ?_
        rotate_left
        · intro w'
          go_simp
          with_reducible rfl
        rotate_left
        · simp only [Act.put, List.setIfInBounds_toArray, List.set_cons_zero, List.set_cons_succ, i64_w, i32_w]
          rfl
        refine pure_ (i := 2) (N := some 42) (v := ?_) (a' := ?_) #[true, true, true, false, false, false, false, false, false, false, false, false, false, false, false, false, false] rfl rfl (any_of HT_.out (by kernel_rfl)) (fun _ _ _ h => h) (Or.inl ⟨by rfl, ?_⟩) ?_ ?_
        rotate_left
        · intro w'
          go_simp
          with_reducible rfl
        rotate_left
        · simp only [Act.put, List.setIfInBounds_toArray, List.set_cons_zero, List.set_cons_succ, i64_w, i32_w]
          rfl
        refine pure_ (i := 3) (N := some 43) (v := ?_) (a' := ?_) #[true, true, true, true, false, false, false, false, false, false, false, false, false, false, false, false, false] rfl rfl (any_of HT_.out (by kernel_rfl)) (fun _ _ _ h => h) (Or.inl ⟨by rfl, ?_⟩) ?_ ?_
        rotate_left
        · intro w'
          go_simp
          with_reducible rfl
        rotate_left
        · simp only [Act.put, List.setIfInBounds_toArray, List.set_cons_zero, List.set_cons_succ, i64_w, i32_w]
          rfl
        refine pure_ (i := 4) (N := some 44) (v := ?_) (a' := ?_) #[true, true, true, true, true, false, false, false, false, false, false, false, false, false, false, false, false] rfl rfl (any_of HT_.out (by kernel_rfl)) (fun _ _ _ h => h) (Or.inl ⟨by rfl, ?_⟩) ?_ ?_
        rotate_left
        · intro w'
          go_simp
          with_reducible rfl
        rotate_left
        · simp only [Act.put, List.setIfInBounds_toArray, List.set_cons_zero, List.set_cons_succ, i64_w, i32_w]
          rfl
        refine pure_ (i := 6) (N := some 46) (v := ?_) (a' := ?_) #[true, true, true, true, true, false, true, false, false, false, false, false, false, false, false, false, false] rfl rfl (any_of HT_.out (by kernel_rfl)) (fun _ _ _ h => h) (Or.inl ⟨by rfl, ?_⟩) ?_ ?_
        rotate_left
        · intro w'
          go_simp
          with_reducible rfl
        rotate_left
        · simp only [Act.put, List.setIfInBounds_toArray, List.set_cons_zero, List.set_cons_succ, i64_w, i32_w]
          rfl
        refine pure_ (i := 7) (N := some 47) (v := ?_) (a' := ?_) #[true, true, true, true, true, false, true, true, false, false, false, false, false, false, false, false, false] rfl rfl (any_of HT_.out (by kernel_rfl)) (fun _ _ _ h => h) (Or.inl ⟨by rfl, ?_⟩) ?_ ?_
        rotate_left
        · intro w'
          go_simp
          with_reducible rfl
        rotate_left
        · simp only [Act.put, List.setIfInBounds_toArray, List.set_cons_zero, List.set_cons_succ, i64_w, i32_w]
          rfl
        refine pure_ (i := 8) (N := some 48) (v := ?_) (a' := ?_) #[true, true, true, true, true, false, true, true, true, false, false, false, false, false, false, false, false] rfl rfl (any_of HT_.out (by kernel_rfl)) (fun _ _ _ h => h) (Or.inl ⟨by rfl, ?_⟩) ?_ ?_
        rotate_left
        · intro w'
          go_simp
          with_reducible rfl
        rotate_left
        · simp only [Act.put, List.setIfInBounds_toArray, List.set_cons_zero, List.set_cons_succ, i64_w, i32_w]
          rfl
        refine take_ (i := 5) (N := some 45) (v := ?_) (a' := ?_) #[true, true, true, true, true, true, true, true, true, false, false, false, false, false, false, false, false] rfl rfl (take_ofW HT_.out HW_.out (by kernel_rfl)) (fun _ _ _ h => h) (Or.inl ⟨by rfl, ?_⟩) hHeld ?_ ?_
        rotate_left
        · rintro w' s0
          go_simp
          with_reducible rfl
        rotate_left
        · simp only [Act.put, List.setIfInBounds_toArray, List.set_cons_zero, List.set_cons_succ, i64_w, i32_w]
          rfl
        refine one_ (i := 9) (N := some 49) #[true, true, true, true, true, true, true, true, true, true, false, false, false, false, false, false, false] rfl rfl (one_of HT_.out (by kernel_rfl)) (by decide) (fun K hK => ?_)
        refine goes_ Try.func32 (by kernel_rfl) rfl #[(.int .i64 x), (.int .i64 65536)] (by rfl) rfl rfl (by (try simp only [List.map_toArray, List.map_cons, List.map_nil]); first | done | rfl) ?_
        with_reducible refine (bring_c x 65536 _ HXW.out (by decide) (by decide)).mono ?_
        rintro e w_32 ⟨rfl, rfl⟩
        refine ⟨_, rfl, ?_⟩
        rw [HBR.out]
        refine hK.out _ _ ((Below.cell (B := w.heap.size) (w := w) (by repeat (first | (with_reducible first | exact HB.out | apply below_alloc | apply pw_below_drewN | apply below_drew1) | exact HB.out)) (World.block_lt_of_cell? w _ HX0.out)).trans HX0.out) (fun hHeld => ?_)
        clear hK K
        refine norm_ (a' := ?_) ?_ ?_
        rotate_left
        · show Act.put _ (some 49) _ = _
          simp only [Act.put, List.setIfInBounds_toArray, List.set_cons_zero, List.set_cons_succ, i64_w, i32_w]
          rfl
        refine one_ (i := 10) (N := some 50) #[true, true, true, true, true, true, true, true, true, true, true, false, false, false, false, false, false] rfl rfl (one_of HT_.out (by kernel_rfl)) (by decide) (fun K hK => ?_)
        refine value_ (v := ?_) (w1 := ?_) (by rfl) rfl ?_ ?_
        rotate_left 2
        · go_simp
          first | (with_reducible rfl) | (refine ⟨?_, ?_⟩ <;> with_reducible rfl)
        refine hK.out _ _ ((Below.cell (B := w.heap.size) (w := w) (by repeat (first | (with_reducible first | exact HB.out | apply below_alloc | apply pw_below_drewN | apply below_drew1) | exact HB.out)) (World.block_lt_of_cell? w _ HX0.out)).trans HX0.out) (fun hHeld => ?_)
        clear hK K
        refine norm_ (a' := ?_) ?_ ?_
        rotate_left
        · show Act.put _ (some 50) _ = _
          simp only [Act.put, List.setIfInBounds_toArray, List.set_cons_zero, List.set_cons_succ, i64_w, i32_w]
          rfl
        refine one_ (i := 11) (N := some 51) #[true, true, true, true, true, true, true, true, true, true, true, true, false, false, false, false, false] rfl rfl (one_of HT_.out (by kernel_rfl)) (by decide) (fun K hK => ?_)
        refine goes_ Try.func20 (by kernel_rfl) rfl #[u8, (.int .i64 2), (.slice (some ⟨_, 0, none⟩) 1 1)] (by rfl) rfl rfl (by (try simp only [List.map_toArray, List.map_cons, List.map_nil]); first | done | rfl) ?_
        with_reducible refine (oput_v _ _ bs 2 [y] _ _ _ ?s0 ?s1 ?s2 HPUT.out).mono ?_
        (case s0 => exact BR.bv (by repeat (first | (with_reducible first | exact HO.out | apply BR.alloc | apply BR.drewN | apply BR.drew))))
        (case s1 => exact lit_iv _ [y])
        (case s2 => have := HLB.out; simp only [List.length_cons, List.length_nil]; omega)
        rintro e w_20 ⟨vb, rfl, ho, hb⟩
        refine ⟨_, rfl, ?_⟩
        have HO2 := Aside0.mk (ho.lower (below_size (by repeat (first | (with_reducible first | exact HB.out | apply below_alloc | apply pw_below_drewN | apply below_drew1) | exact HB.out))))
        have HSZ2 := Aside0.mk (Sz.mv (by repeat (first | (with_reducible first | exact HSZ.out | apply Sz.alloc | apply Sz.drewN | apply Sz.drew))) hb)
        have n_ := Aside0.mk (below_step (by repeat (first | (with_reducible first | exact HB.out | apply below_alloc | apply pw_below_drewN | apply below_drew1) | exact HB.out)) hb)
        have HB := n_
        clear n_ hb ho
        refine hK.out _ _ ((Below.cell (B := w.heap.size) (w := w) HB.out (World.block_lt_of_cell? w _ HX0.out)).trans HX0.out) (fun hHeld => ?_)
        clear hK K
        refine norm_ (a' := ?_) ?_ ?_
        rotate_left
        · show Act.put _ (some 51) _ = _
          simp only [Act.put, List.setIfInBounds_toArray, List.set_cons_zero, List.set_cons_succ, i64_w, i32_w]
          rfl
        refine pure_ (i := 12) (N := some 39) (v := ?_) (a' := ?_) #[true, true, true, true, true, true, true, true, true, true, true, true, true, false, false, false, false] rfl rfl (any_of HT_.out (by kernel_rfl)) (fun _ _ _ h => h) (Or.inl ⟨by rfl, ?_⟩) ?_ ?_
        rotate_left
        · intro w'
          go_simp
          with_reducible rfl
        rotate_left
        · simp only [Act.put, List.setIfInBounds_toArray, List.set_cons_zero, List.set_cons_succ, i64_w, i32_w]
          rfl
        refine pure_ (i := 13) (N := some 52) (v := ?_) (a' := ?_) #[true, true, true, true, true, true, true, true, true, true, true, true, true, true, false, false, false] rfl rfl (any_of HT_.out (by kernel_rfl)) (fun _ _ _ h => h) (Or.inl ⟨by rfl, ?_⟩) ?_ ?_
        rotate_left
        · intro w'
          go_simp
          with_reducible rfl
        rotate_left
        · simp only [Act.put, List.setIfInBounds_toArray, List.set_cons_zero, List.set_cons_succ, i64_w, i32_w]
          rfl
        refine pure_ (i := 14) (N := some 53) (v := ?_) (a' := ?_) #[true, true, true, true, true, true, true, true, true, true, true, true, true, true, true, false, false] rfl rfl (any_of HT_.out (by kernel_rfl)) (fun _ _ _ h => h) (Or.inl ⟨by rfl, ?_⟩) ?_ ?_
        rotate_left
        · intro w'
          go_simp
          with_reducible rfl
        rotate_left
        · simp only [Act.put, List.setIfInBounds_toArray, List.set_cons_zero, List.set_cons_succ, i64_w, i32_w]
          rfl
        refine pure_ (i := 15) (N := some 11) (v := ?_) (a' := ?_) #[true, true, true, true, true, true, true, true, true, true, true, true, true, true, true, true, false] rfl rfl (any_of HT_.out (by kernel_rfl)) (fun _ _ _ h => h) (Or.inl ⟨by rfl, ?_⟩) ?_ ?_
        rotate_left
        · intro w'
          go_simp
          with_reducible rfl
        rotate_left
        · simp only [Act.put, List.setIfInBounds_toArray, List.set_cons_zero, List.set_cons_succ, i64_w, i32_w]
          rfl
        refine pure_ (i := 16) (N := some 12) (v := ?_) (a' := ?_) #[true, true, true, true, true, true, true, true, true, true, true, true, true, true, true, true, true] rfl rfl (any_of HT_.out (by kernel_rfl)) (fun _ _ _ h => h) (Or.inl ⟨by rfl, ?_⟩) ?_ ?_
        rotate_left
        · intro w'
          go_simp
          with_reducible rfl
        rotate_left
        · simp only [Act.put, List.setIfInBounds_toArray, List.set_cons_zero, List.set_cons_succ, i64_w, i32_w]
          rfl
        refine done_ (done_of HT_.out (by kernel_rfl)) ?_

        go_wp2
        go_roundg g'
        case measure => omega
        case rel => exact ⟨i + 1, bs ++ dig (szOf i) (brOf l0 i), by omega, by omega, by go_num, ⟨by rw [HE.out, encN_snoc, Nat.zero_add]⟩, ⟨(by repeat (first | (with_reducible first | exact HO2.out | apply BR.alloc | apply BR.drewN | apply BR.drew)))⟩, ⟨(by repeat (first | (with_reducible first | exact HSZ2.out | apply Sz.alloc | apply Sz.drewN | apply Sz.drew)))⟩, ⟨(by repeat (first | (with_reducible first | exact HB.out | apply below_alloc | apply pw_below_drewN | apply below_drew1) | exact HB.out))⟩⟩

      · have hsz1 := HSZ.out.at_ i
        rw [hsi] at hsz1
        have HXM := Aside0.mk (show x % 4294967296 = y by rw [← HY0.out]; unfold brOf; rw [hsi, HXE.out]; rfl)
        have HBR := HXM
        have HPUT := Aside0.mk (show putS bs 4 [y] = (bs ++ dig (szOf i) (brOf l0 i), 0) by have := put_br bs l0 i; rw [hsi, HY0.out] at this; rw [hsi, HY0.out]; exact this)
        have k8 : wrap64 (32 : Int) = 32 := by unfold wrap64; omega
        have k9 : wrap64 (4294967296 : Int) = 4294967296 := by unfold wrap64; omega
        have k10 : IntKind.i64.wrap (4294967296 : Int) = 4294967296 := by rw [i64_w]; exact k9
        go_wp2
        refine start_ (n := 17) (S := fun w' => w'.cell? (ad.add i) = some (Value.int .i64 x)) (ds := []) #[false, false, false, false, false, false, false, false, false, false, false, false, false, false, false, false, false] (by kernel_rfl) rfl rfl ((Below.cell (B := w.heap.size) (w := w) (by repeat (first | (with_reducible first | exact HB.out | apply below_alloc | apply pw_below_drewN | apply below_drew1) | exact HB.out)) (World.block_lt_of_cell? w _ HX0.out)).trans HX0.out) (fun hHeld => ?_)
        refine with_tabW r9_10.tab r9_10.bits (fun HT_ HW_ => ?_)
        refine pure_ (i := 0) (N := some 40) (v := ?_) (a' := ?_) #[true, false, false, false, false, false, false, false, false, false, false, false, false, false, false, false, false] rfl rfl (any_of HT_.out (by kernel_rfl)) (fun _ _ _ h => h) (Or.inl ⟨by rfl, ?_⟩) ?_ ?_
        rotate_left
        · intro w'
          go_simp
          with_reducible rfl
        rotate_left
        · simp only [Act.put, List.setIfInBounds_toArray, List.set_cons_zero, List.set_cons_succ, i64_w, i32_w]
          rfl
        refine pure_ (i := 1) (N := some 41) (v := ?_) (a' := ?_) #[true, true, false, false, false, false, false, false, false, false, false, false, false, false, false, false, false] rfl rfl (any_of HT_.out (by kernel_rfl)) (fun _ _ _ h => h) (Or.inl ⟨by rfl, ?_⟩) ?_ ?_
        rotate_left
        · intro w'
          go_simp
          with_reducible rfl
        rotate_left
        · simp only [Act.put, List.setIfInBounds_toArray, List.set_cons_zero, List.set_cons_succ, i64_w, i32_w]
          rfl
        refine pure_ (i := 2) (N := some 42) (v := ?_) (a' := ?_) #[true, true, true, false, false, false, false, false, false, false, false, false, false, false, false, false, false] rfl rfl (any_of HT_.out (by kernel_rfl)) (fun _ _ _ h => h) (Or.inl ⟨by rfl, ?_⟩) ?_ ?_
        rotate_left
        · intro w'
          go_simp
          with_reducible rfl
        rotate_left
        · simp only [Act.put, List.setIfInBounds_toArray, List.set_cons_zero, List.set_cons_succ, i64_w, i32_w]
          rfl
        refine pure_ (i := 3) (N := some 43) (v := ?_) (a' := ?_) #[true, true, true, true, false, false, false, false, false, false, false, false, false, false, false, false, false] rfl rfl (any_of HT_.out (by kernel_rfl)) (fun _ _ _ h => h) (Or.inl ⟨by rfl, ?_⟩) ?_ ?_
        rotate_left
        · intro w'
          go_simp
          with_reducible rfl
        rotate_left
        · simp only [Act.put, List.setIfInBounds_toArray, List.set_cons_zero, List.set_cons_succ, i64_w, i32_w]
          rfl
        refine pure_ (i := 4) (N := some 44) (v := ?_) (a' := ?_) #[true, true, true, true, true, false, false, false, false, false, false, false, false, false, false, false, false] rfl rfl (any_of HT_.out (by kernel_rfl)) (fun _ _ _ h => h) (Or.inl ⟨by rfl, ?_⟩) ?_ ?_
        rotate_left
        · intro w'
          go_simp
          with_reducible rfl
        rotate_left
        · simp only [Act.put, List.setIfInBounds_toArray, List.set_cons_zero, List.set_cons_succ, i64_w, i32_w]
          rfl
        refine pure_ (i := 6) (N := some 46) (v := ?_) (a' := ?_) #[true, true, true, true, true, false, true, false, false, false, false, false, false, false, false, false, false] rfl rfl (any_of HT_.out (by kernel_rfl)) (fun _ _ _ h => h) (Or.inl ⟨by rfl, ?_⟩) ?_ ?_
        rotate_left
        · intro w'
          go_simp
          with_reducible rfl
        rotate_left
        · simp only [Act.put, List.setIfInBounds_toArray, List.set_cons_zero, List.set_cons_succ, i64_w, i32_w]
          rfl
        refine pure_ (i := 7) (N := some 47) (v := ?_) (a' := ?_) #[true, true, true, true, true, false, true, true, false, false, false, false, false, false, false, false, false] rfl rfl (any_of HT_.out (by kernel_rfl)) (fun _ _ _ h => h) (Or.inl ⟨by rfl, ?_⟩) ?_ ?_
        rotate_left
        · intro w'
          go_simp
          with_reducible rfl
        rotate_left
        · simp only [Act.put, List.setIfInBounds_toArray, List.set_cons_zero, List.set_cons_succ, i64_w, i32_w]
          rfl
        refine pure_ (i := 8) (N := some 48) (v := ?_) (a' := ?_) #[true, true, true, true, true, false, true, true, true, false, false, false, false, false, false, false, false] rfl rfl (any_of HT_.out (by kernel_rfl)) (fun _ _ _ h => h) (Or.inl ⟨by rfl, ?_⟩) ?_ ?_
        rotate_left
        · intro w'
          go_simp
          with_reducible rfl
        rotate_left
        · simp only [Act.put, List.setIfInBounds_toArray, List.set_cons_zero, List.set_cons_succ, i64_w, i32_w]
          rfl
        refine take_ (i := 5) (N := some 45) (v := ?_) (a' := ?_) #[true, true, true, true, true, true, true, true, true, false, false, false, false, false, false, false, false] rfl rfl (take_ofW HT_.out HW_.out (by kernel_rfl)) (fun _ _ _ h => h) (Or.inl ⟨by rfl, ?_⟩) hHeld ?_ ?_
        rotate_left
        · rintro w' s0
          go_simp
          with_reducible rfl
        rotate_left
        · simp only [Act.put, List.setIfInBounds_toArray, List.set_cons_zero, List.set_cons_succ, i64_w, i32_w]
          rfl
        refine one_ (i := 9) (N := some 49) #[true, true, true, true, true, true, true, true, true, true, false, false, false, false, false, false, false] rfl rfl (one_of HT_.out (by kernel_rfl)) (by decide) (fun K hK => ?_)
        refine goes_ Try.func32 (by kernel_rfl) rfl #[(.int .i64 x), (.int .i64 4294967296)] (by rfl) rfl rfl (by (try simp only [List.map_toArray, List.map_cons, List.map_nil]); first | done | rfl) ?_
        with_reducible refine (bring_c x 4294967296 _ HXW.out (by decide) (by decide)).mono ?_
        rintro e w_32 ⟨rfl, rfl⟩
        refine ⟨_, rfl, ?_⟩
        rw [HBR.out]
        refine hK.out _ _ ((Below.cell (B := w.heap.size) (w := w) (by repeat (first | (with_reducible first | exact HB.out | apply below_alloc | apply pw_below_drewN | apply below_drew1) | exact HB.out)) (World.block_lt_of_cell? w _ HX0.out)).trans HX0.out) (fun hHeld => ?_)
        clear hK K
        refine norm_ (a' := ?_) ?_ ?_
        rotate_left
        · show Act.put _ (some 49) _ = _
          simp only [Act.put, List.setIfInBounds_toArray, List.set_cons_zero, List.set_cons_succ, i64_w, i32_w]
          rfl
        refine one_ (i := 10) (N := some 50) #[true, true, true, true, true, true, true, true, true, true, true, false, false, false, false, false, false] rfl rfl (one_of HT_.out (by kernel_rfl)) (by decide) (fun K hK => ?_)
        refine value_ (v := ?_) (w1 := ?_) (by rfl) rfl ?_ ?_
        rotate_left 2
        · go_simp
          first | (with_reducible rfl) | (refine ⟨?_, ?_⟩ <;> with_reducible rfl)
        refine hK.out _ _ ((Below.cell (B := w.heap.size) (w := w) (by repeat (first | (with_reducible first | exact HB.out | apply below_alloc | apply pw_below_drewN | apply below_drew1) | exact HB.out)) (World.block_lt_of_cell? w _ HX0.out)).trans HX0.out) (fun hHeld => ?_)
        clear hK K
        refine norm_ (a' := ?_) ?_ ?_
        rotate_left
        · show Act.put _ (some 50) _ = _
          simp only [Act.put, List.setIfInBounds_toArray, List.set_cons_zero, List.set_cons_succ, i64_w, i32_w]
          rfl
        refine one_ (i := 11) (N := some 51) #[true, true, true, true, true, true, true, true, true, true, true, true, false, false, false, false, false] rfl rfl (one_of HT_.out (by kernel_rfl)) (by decide) (fun K hK => ?_)
        refine goes_ Try.func20 (by kernel_rfl) rfl #[u8, (.int .i64 4), (.slice (some ⟨_, 0, none⟩) 1 1)] (by rfl) rfl rfl (by (try simp only [List.map_toArray, List.map_cons, List.map_nil]); first | done | rfl) ?_
        with_reducible refine (oput_v _ _ bs 4 [y] _ _ _ ?s0 ?s1 ?s2 HPUT.out).mono ?_
        (case s0 => exact BR.bv (by repeat (first | (with_reducible first | exact HO.out | apply BR.alloc | apply BR.drewN | apply BR.drew))))
        (case s1 => exact lit_iv _ [y])
        (case s2 => have := HLB.out; simp only [List.length_cons, List.length_nil]; omega)
        rintro e w_20 ⟨vb, rfl, ho, hb⟩
        refine ⟨_, rfl, ?_⟩
        have HO2 := Aside0.mk (ho.lower (below_size (by repeat (first | (with_reducible first | exact HB.out | apply below_alloc | apply pw_below_drewN | apply below_drew1) | exact HB.out))))
        have HSZ2 := Aside0.mk (Sz.mv (by repeat (first | (with_reducible first | exact HSZ.out | apply Sz.alloc | apply Sz.drewN | apply Sz.drew))) hb)
        have n_ := Aside0.mk (below_step (by repeat (first | (with_reducible first | exact HB.out | apply below_alloc | apply pw_below_drewN | apply below_drew1) | exact HB.out)) hb)
        have HB := n_
        clear n_ hb ho
        refine hK.out _ _ ((Below.cell (B := w.heap.size) (w := w) HB.out (World.block_lt_of_cell? w _ HX0.out)).trans HX0.out) (fun hHeld => ?_)
        clear hK K
        refine norm_ (a' := ?_) ?_ ?_
        rotate_left
        · show Act.put _ (some 51) _ = _
          simp only [Act.put, List.setIfInBounds_toArray, List.set_cons_zero, List.set_cons_succ, i64_w, i32_w]
          rfl
        refine pure_ (i := 12) (N := some 39) (v := ?_) (a' := ?_) #[true, true, true, true, true, true, true, true, true, true, true, true, true, false, false, false, false] rfl rfl (any_of HT_.out (by kernel_rfl)) (fun _ _ _ h => h) (Or.inl ⟨by rfl, ?_⟩) ?_ ?_
        rotate_left
        · intro w'
          go_simp
          with_reducible rfl
        rotate_left
        · simp only [Act.put, List.setIfInBounds_toArray, List.set_cons_zero, List.set_cons_succ, i64_w, i32_w]
          rfl
        refine pure_ (i := 13) (N := some 52) (v := ?_) (a' := ?_) #[true, true, true, true, true, true, true, true, true, true, true, true, true, true, false, false, false] rfl rfl (any_of HT_.out (by kernel_rfl)) (fun _ _ _ h => h) (Or.inl ⟨by rfl, ?_⟩) ?_ ?_
        rotate_left
        · intro w'
          go_simp
          with_reducible rfl
        rotate_left
        · simp only [Act.put, List.setIfInBounds_toArray, List.set_cons_zero, List.set_cons_succ, i64_w, i32_w]
          rfl
        refine pure_ (i := 14) (N := some 53) (v := ?_) (a' := ?_) #[true, true, true, true, true, true, true, true, true, true, true, true, true, true, true, false, false] rfl rfl (any_of HT_.out (by kernel_rfl)) (fun _ _ _ h => h) (Or.inl ⟨by rfl, ?_⟩) ?_ ?_
        rotate_left
        · intro w'
          go_simp
          with_reducible rfl
        rotate_left
        · simp only [Act.put, List.setIfInBounds_toArray, List.set_cons_zero, List.set_cons_succ, i64_w, i32_w]
          rfl
        refine pure_ (i := 15) (N := some 11) (v := ?_) (a' := ?_) #[true, true, true, true, true, true, true, true, true, true, true, true, true, true, true, true, false] rfl rfl (any_of HT_.out (by kernel_rfl)) (fun _ _ _ h => h) (Or.inl ⟨by rfl, ?_⟩) ?_ ?_
        rotate_left
        · intro w'
          go_simp
          with_reducible rfl
        rotate_left
        · simp only [Act.put, List.setIfInBounds_toArray, List.set_cons_zero, List.set_cons_succ, i64_w, i32_w]
          rfl
        refine pure_ (i := 16) (N := some 12) (v := ?_) (a' := ?_) #[true, true, true, true, true, true, true, true, true, true, true, true, true, true, true, true, true] rfl rfl (any_of HT_.out (by kernel_rfl)) (fun _ _ _ h => h) (Or.inl ⟨by rfl, ?_⟩) ?_ ?_
        rotate_left
        · intro w'
          go_simp
          with_reducible rfl
        rotate_left
        · simp only [Act.put, List.setIfInBounds_toArray, List.set_cons_zero, List.set_cons_succ, i64_w, i32_w]
          rfl
        refine done_ (done_of HT_.out (by kernel_rfl)) ?_

        go_wp2
        go_roundg g'
        case measure => omega
        case rel => exact ⟨i + 1, bs ++ dig (szOf i) (brOf l0 i), by omega, by omega, by go_num, ⟨by rw [HE.out, encN_snoc, Nat.zero_add]⟩, ⟨(by repeat (first | (with_reducible first | exact HO2.out | apply BR.alloc | apply BR.drewN | apply BR.drew)))⟩, ⟨(by repeat (first | (with_reducible first | exact HSZ2.out | apply Sz.alloc | apply Sz.drewN | apply Sz.drew)))⟩, ⟨(by repeat (first | (with_reducible first | exact HB.out | apply below_alloc | apply pw_below_drewN | apply below_drew1) | exact HB.out))⟩⟩

    · have hi2 : l0.length = i ∨ (i = 20 ∧ i < l0.length) := by omega
      rcases hi2 with hi2 | hi2
      · have HNN := Aside0.mk (show i = l0.length by omega)
        have z20 : decide ((i : Int) < (l0.length : Int)) = false := decide_eq_false (by omega)
        have z21 : decide (i < l0.length) = false := decide_eq_false (by omega)
        clear hi2 hgo
        have HLB := Aside0.mk (show bs.length ≤ 80 by rw [HE.out]; have := encN_len l0 i 0; omega)
        go_wp2_with (first | (go_at_call 22; (with_reducible refine (otext_v _ _ bs ls (bs ++ dig 2 ls.length ++ ls) 0 _ ?s0 ?s1 ?s2 (textS_ok bs ls (by have := HCUT.out; omega))).mono ?_); (case s0 => exact HO.out.bv); (case s1 => exact H1.out.mv HB.out); (case s2 => have := HLB.out; omega); rintro e wT ⟨vt, rfl, ho, hb⟩; have HTG := Aside0.mk (show ∀ k, vt.ownBlock = some k → k ≠ gs from fun k hk => by have := ho.block_ge k hk; have := HSZ.out.lt; omega); have HO_t := Aside0.mk (ho.lower HB.out.size); have HSZt := Aside0.mk (HSZ.out.mv hb); have n_ := Aside0.mk (below_step HB.out hb); have HB := n_; clear n_ ho hb) | ((with_reducible refine gate_builtin (b := .append) (xs := #[.tmp 63, .tmp 64]) rfl ?_); at_builtin; refine app_arm (w0 := w) w.heap.size rfl (.tmp 63) (.tmp 64) rfl _ (bs ++ dig 2 ls.length ++ ls) lt _ _ _ rfl rfl ?aO ?aR ?aM ?aB ?aS ?aL ?_; (case aO => exact HO_t.out); (case aR => exact (H2.out.mv (by repeat (first | (with_reducible first | exact HB.out | apply below_alloc | apply pw_below_drewN | apply below_drew1) | exact HB.out)))); (case aM => first | rfl | simp); (case aB => exact (by repeat (first | (with_reducible first | exact HB.out | apply below_alloc | apply pw_below_drewN | apply below_drew1) | exact HB.out))); (case aS => exact below_size (by repeat (first | (with_reducible first | exact HB.out | apply below_alloc | apply pw_below_drewN | apply below_drew1) | exact HB.out))); (case aL => (have := HLB.out; have := HCUT.out; have := HY2.out; simp only [List.length_append, dig_length]; omega)); intro v_d w_d ho hb hg hat; have n_ := Aside0.mk hb; clear HB; have HB := n_; clear n_; have HO_d := Aside0.mk ho; have HSZd := Aside0.mk (show Sz w_d gs from (hg.block gs HSZt.out.lt (fun h => HTG.out gs h.symm rfl)).trans HSZt.out); clear ho hb; skip) | (go_at_call 40; (with_reducible refine (oread_v _ (bs ++ dig 2 ls.length ++ ls ++ lt) _ ?s0).mono ?_); (case s0 => exact HO_d.out.bv); rintro e wR ⟨gr, rfl, hgr, hr, hb⟩; have HRR := Aside0.mk hr; have HSZ3 := Aside0.mk (HSZd.out.mv hb); have HGR := Aside0.mk (show w.heap.size ≤ gr from by rw [hgr]; exact HB.out.size); have HNE := Aside0.mk (show gs ≠ gr from by have := HSZd.out.lt; omega); have n_ := Aside0.mk (below_step HB.out hb); have HB := n_; clear n_ hr hb hgr))
        have HTL := Aside0.mk (show bytesP (dig 2 ls.length ++ ls ++ lt) from ((dig_bytes _ _).app HB1.out).app HB2.out)
        have HTLL := Aside0.mk (show (dig 2 ls.length ++ ls ++ lt).length < 140737488355328 by have := HCUT.out; have := HY2.out; simp only [List.length_append, dig_length]; omega)
        have HTX := Aside0.mk (rText_put ls lt (by have := HCUT.out; omega))
        have HRR0 := Aside0.mk (show Rb wR 60 gr (encN l0 0 i ++ (dig 2 ls.length ++ ls ++ lt)) 0 by have := HRR.out; rw [HE.out] at this; simpa only [List.append_assoc] using this)
        have HIL := Aside0.mk hil
        have HI20 := Aside0.mk (show i ≤ 20 by omega)
        obtain ⟨tl, htl⟩ : ∃ tl, dig 2 ls.length ++ ls ++ lt = tl := ⟨_, rfl⟩
        rw [htl] at HTL HTLL HTX HRR0
        clear htl HRR z20 z21
        go_loopg [15] i (fun m v15 w' => ∃ j : Nat, j + m = i ∧ v15 = .int .i64 j ∧ Aside0 (Rb w' 60 gr (encN l0 j m ++ tl) 0) ∧ Aside0 (Sz w' gs) ∧ Aside0 (Below w.heap.size w w'))
        case atStart => exact ⟨0, by omega, rfl, HRR0, HSZ3, HB⟩
        case round =>
          clear HB HSZ HSZ3 HRR0 HSZt HSZd
          obtain ⟨j, hj, rfl, HRR, HSZ, HB⟩ := hrel
          by_cases hgo : j < i
          · obtain ⟨m, rfl⟩ : ∃ m, gk = m + 1 := ⟨gk - 1, by omega⟩
            have y20 : decide ((j : Int) < (l0.length : Int)) = true := decide_eq_true (by omega)
            have y21 : decide (j < l0.length) = true := decide_eq_true (by omega)
            have z20 : decide ((j : Int) < 20) = true := decide_eq_true (by have := HI20.out; omega)
            have z21 : decide (j < 20) = true := decide_eq_true (by have := HI20.out; omega)
            obtain ⟨ad, e1, hx⟩ := H0.out.atN j (by omega)
            subst e1
            obtain ⟨x, hx0⟩ : ∃ x, l0.getD j 0 = x := ⟨_, rfl⟩
            rw [hx0] at hx
            have HX0 := Aside0.mk hx
            have HXE := Aside0.mk hx0
            have HXW := Aside0.mk (H0W.out x (hx0 ▸ getD_mem l0 j (by omega)))
            replace hx := (HB.out.cell (World.block_lt_of_cell? w _ hx)).trans hx
            have q1 : (j : Int) < (l0.length : Int) := by omega
            replace q1 := eq_true q1
            obtain ⟨y, hy0⟩ : ∃ y, brOf l0 j = y := ⟨_, rfl⟩
            have HY0 := Aside0.mk hy0
            clear hx0 hy0
            rcases szOf_cases j with hsj | hsj | hsj
            · have hsz1 := HSZ.out.at_ j
              rw [hsj] at hsz1
              have HBR := Aside0.mk (show x % 256 = y by rw [← HY0.out]; unfold brOf; rw [hsj, HXE.out]; rfl)
              have HNUM := Aside0.mk (show rNum (encN l0 j (m + 1) ++ tl) 0 1 = (y, encN l0 (j + 1) m ++ tl, 0) by have := rNum_enc l0 j m tl; rw [hsj, HY0.out] at this; exact this)
              have k8 : wrap64 (8 : Int) = 8 := by unfold wrap64; omega
              have k9 : wrap64 (256 : Int) = 256 := by unfold wrap64; omega
              have k10 : IntKind.i64.wrap (256 : Int) = 256 := by rw [i64_w]; exact k9
              have m1 : ((j : Int)).tmod 3 = (j : Int) % 3 := Int.tmod_eq_emod_of_nonneg (by omega)
              have m2 : (0 ≤ (j : Int) % 3) = True := eq_true (by omega)
              have m3 : ((j : Int) % 3 < 3) = True := eq_true (by omega)
              have m4 : ((j : Int) % 3).toNat = j % 3 := by omega
              go_wp2
              refine start_ (n := 20) (S := fun w' => w'.cell? ⟨gs, j % 3, none⟩ = some (Value.int .i64 1) ∧ w'.cell? (ad.add j) = some (Value.int .i64 x)) (ds := []) #[false, false, false, false, false, false, false, false, false, false, false, false, false, false, false, false, false, false, false, false] (by kernel_rfl) rfl rfl ⟨by have := Sz.at_ (by repeat (first | (with_reducible first | exact HSZ.out | apply Sz.alloc | apply Sz.drewN | apply Sz.drew))) j; rw [hsj] at this; exact this, (Below.cell (B := w.heap.size) (w := w) (by repeat (first | (with_reducible first | exact HB.out | apply below_alloc | apply pw_below_drewN | apply below_drew1) | exact HB.out)) (World.block_lt_of_cell? w _ HX0.out)).trans HX0.out⟩ (fun hHeld => ?_)
              refine with_tabW r9_21.tab r9_21.bits (fun HT_ HW_ => ?_)
              refine pure_ (i := 0) (N := some 83) (v := ?_) (a' := ?_) #[true, false, false, false, false, false, false, false, false, false, false, false, false, false, false, false, false, false, false, false] rfl rfl (any_of HT_.out (by kernel_rfl)) (fun _ _ _ h => h) (Or.inl ⟨by rfl, ?_⟩) ?_ ?_
              rotate_left
              · intro w'
                go_simp
                with_reducible rfl
              rotate_left
              · simp only [Act.put, List.setIfInBounds_toArray, List.set_cons_zero, List.set_cons_succ, i64_w, i32_w]
                rfl
              refine pure_ (i := 1) (N := some 84) (v := ?_) (a' := ?_) #[true, true, false, false, false, false, false, false, false, false, false, false, false, false, false, false, false, false, false, false] rfl rfl (any_of HT_.out (by kernel_rfl)) (fun _ _ _ h => h) (Or.inl ⟨by rfl, ?_⟩) ?_ ?_
              rotate_left
              · intro w'
                go_simp
                with_reducible rfl
              rotate_left
              · simp only [Act.put, List.setIfInBounds_toArray, List.set_cons_zero, List.set_cons_succ, i64_w, i32_w]
                rfl
              refine pure_ (i := 2) (N := some 85) (v := ?_) (a' := ?_) #[true, true, true, false, false, false, false, false, false, false, false, false, false, false, false, false, false, false, false, false] rfl rfl (any_of HT_.out (by kernel_rfl)) (fun _ _ _ h => h) (Or.inl ⟨by rfl, ?_⟩) ?_ ?_
              rotate_left
              · intro w'
                go_simp
                with_reducible rfl
              rotate_left
              · simp only [Act.put, List.setIfInBounds_toArray, List.set_cons_zero, List.set_cons_succ, i64_w, i32_w]
                rfl
              refine pure_ (i := 3) (N := some 86) (v := ?_) (a' := ?_) #[true, true, true, true, false, false, false, false, false, false, false, false, false, false, false, false, false, false, false, false] rfl rfl (any_of HT_.out (by kernel_rfl)) (fun _ _ _ h => h) (Or.inl ⟨by rfl, ?_⟩) ?_ ?_
              rotate_left
              · intro w'
                go_simp
                with_reducible rfl
              rotate_left
              · simp only [Act.put, List.setIfInBounds_toArray, List.set_cons_zero, List.set_cons_succ, i64_w, i32_w]
                rfl
              refine pure_ (i := 4) (N := some 87) (v := ?_) (a' := ?_) #[true, true, true, true, true, false, false, false, false, false, false, false, false, false, false, false, false, false, false, false] rfl rfl (any_of HT_.out (by kernel_rfl)) (fun _ _ _ h => h) (Or.inl ⟨by rfl, ?_⟩) ?_ ?_
              rotate_left
              · intro w'
                go_simp
                with_reducible rfl
              rotate_left
              · simp only [Act.put, List.setIfInBounds_toArray, List.set_cons_zero, List.set_cons_succ, i64_w, i32_w]
                rfl
              refine pure_ (i := 7) (N := some 90) (v := ?_) (a' := ?_) #[true, true, true, true, true, false, false, true, false, false, false, false, false, false, false, false, false, false, false, false] rfl rfl (any_of HT_.out (by kernel_rfl)) (fun _ _ _ h => h) (Or.inl ⟨by rfl, ?_⟩) ?_ ?_
              rotate_left
              · intro w'
                go_simp
                with_reducible rfl
              rotate_left
              · simp only [Act.put, List.setIfInBounds_toArray, List.set_cons_zero, List.set_cons_succ, i64_w, i32_w]
                rfl
              refine pure_ (i := 8) (N := some 91) (v := ?_) (a' := ?_) #[true, true, true, true, true, false, false, true, true, false, false, false, false, false, false, false, false, false, false, false] rfl rfl (any_of HT_.out (by kernel_rfl)) (fun _ _ _ h => h) (Or.inl ⟨by rfl, ?_⟩) ?_ ?_
              rotate_left
              · intro w'
                go_simp
                with_reducible rfl
              rotate_left
              · simp only [Act.put, List.setIfInBounds_toArray, List.set_cons_zero, List.set_cons_succ, i64_w, i32_w]
                rfl
              refine pure_ (i := 9) (N := some 92) (v := ?_) (a' := ?_) #[true, true, true, true, true, false, false, true, true, true, false, false, false, false, false, false, false, false, false, false] rfl rfl (any_of HT_.out (by kernel_rfl)) (fun _ _ _ h => h) (Or.inl ⟨by rfl, ?_⟩) ?_ ?_
              rotate_left
              · intro w'
                go_simp
                with_reducible rfl
              rotate_left
              · simp only [Act.put, List.setIfInBounds_toArray, List.set_cons_zero, List.set_cons_succ, i64_w, i32_w]
                rfl
              refine pure_ (i := 11) (N := some 94) (v := ?_) (a' := ?_) #[true, true, true, true, true, false, false, true, true, true, false, true, false, false, false, false, false, false, false, false] rfl rfl (any_of HT_.out (by kernel_rfl)) (fun _ _ _ h => h) (Or.inl ⟨by rfl, ?_⟩) ?_ ?_
              rotate_left
              · intro w'
                go_simp
                with_reducible rfl
              rotate_left
              · simp only [Act.put, List.setIfInBounds_toArray, List.set_cons_zero, List.set_cons_succ, i64_w, i32_w]
                rfl
              refine pure_ (i := 12) (N := some 95) (v := ?_) (a' := ?_) #[true, true, true, true, true, false, false, true, true, true, false, true, true, false, false, false, false, false, false, false] rfl rfl (any_of HT_.out (by kernel_rfl)) (fun _ _ _ h => h) (Or.inl ⟨by rfl, ?_⟩) ?_ ?_
              rotate_left
              · intro w'
                go_simp
                with_reducible rfl
              rotate_left
              · simp only [Act.put, List.setIfInBounds_toArray, List.set_cons_zero, List.set_cons_succ, i64_w, i32_w]
                rfl
              refine pure_ (i := 13) (N := some 96) (v := ?_) (a' := ?_) #[true, true, true, true, true, false, false, true, true, true, false, true, true, true, false, false, false, false, false, false] rfl rfl (any_of HT_.out (by kernel_rfl)) (fun _ _ _ h => h) (Or.inl ⟨by rfl, ?_⟩) ?_ ?_
              rotate_left
              · intro w'
                go_simp
                with_reducible rfl
              rotate_left
              · simp only [Act.put, List.setIfInBounds_toArray, List.set_cons_zero, List.set_cons_succ, i64_w, i32_w]
                rfl
              refine pure_ (i := 14) (N := some 97) (v := ?_) (a' := ?_) #[true, true, true, true, true, false, false, true, true, true, false, true, true, true, true, false, false, false, false, false] rfl rfl (any_of HT_.out (by kernel_rfl)) (fun _ _ _ h => h) (Or.inl ⟨by rfl, ?_⟩) ?_ ?_
              rotate_left
              · intro w'
                go_simp
                with_reducible rfl
              rotate_left
              · simp only [Act.put, List.setIfInBounds_toArray, List.set_cons_zero, List.set_cons_succ, i64_w, i32_w]
                rfl
              refine take_ (i := 5) (N := some 88) (v := ?_) (a' := ?_) #[true, true, true, true, true, true, false, true, true, true, false, true, true, true, true, false, false, false, false, false] rfl rfl (take_ofW HT_.out HW_.out (by kernel_rfl)) (fun _ _ _ h => h) (Or.inl ⟨by rfl, ?_⟩) hHeld ?_ ?_
              rotate_left
              · rintro w' ⟨s0, s1⟩
                go_simp
                with_reducible rfl
              rotate_left
              · simp only [Act.put, List.setIfInBounds_toArray, List.set_cons_zero, List.set_cons_succ, i64_w, i32_w]
                rfl
              refine take_ (i := 10) (N := some 93) (v := ?_) (a' := ?_) #[true, true, true, true, true, true, false, true, true, true, true, true, true, true, true, false, false, false, false, false] rfl rfl (take_ofW HT_.out HW_.out (by kernel_rfl)) (fun _ _ _ h => h) (Or.inl ⟨by rfl, ?_⟩) hHeld ?_ ?_
              rotate_left
              · rintro w' ⟨s0, s1⟩
                go_simp
                with_reducible rfl
              rotate_left
              · simp only [Act.put, List.setIfInBounds_toArray, List.set_cons_zero, List.set_cons_succ, i64_w, i32_w]
                rfl
              refine take_ (i := 15) (N := some 98) (v := ?_) (a' := ?_) #[true, true, true, true, true, true, false, true, true, true, true, true, true, true, true, true, false, false, false, false] rfl rfl (take_ofW HT_.out HW_.out (by kernel_rfl)) (fun _ _ _ h => h) (Or.inl ⟨by rfl, ?_⟩) hHeld ?_ ?_
              rotate_left
              · rintro w' ⟨s0, s1⟩
                go_simp
                with_reducible rfl
              rotate_left
              · simp only [Act.put, List.setIfInBounds_toArray, List.set_cons_zero, List.set_cons_succ, i64_w, i32_w]
                rfl
              refine pure_ (i := 16) (N := some 99) (v := ?_) (a' := ?_) #[true, true, true, true, true, true, false, true, true, true, true, true, true, true, true, true, true, false, false, false] rfl rfl (any_of HT_.out (by kernel_rfl)) (fun _ _ _ h => h) (Or.inl ⟨by rfl, ?_⟩) ?_ ?_
              rotate_left
              · intro w'
                go_simp
                with_reducible rfl
              rotate_left
              · simp only [Act.put, List.setIfInBounds_toArray, List.set_cons_zero, List.set_cons_succ, i64_w, i32_w]
                rfl
              refine pure_ (i := 17) (N := some 100) (v := ?_) (a' := ?_) #[true, true, true, true, true, true, false, true, true, true, true, true, true, true, true, true, true, true, false, false] rfl rfl (any_of HT_.out (by kernel_rfl)) (fun _ _ _ h => h) (Or.inl ⟨by rfl, ?_⟩) ?_ ?_
              rotate_left
              · intro w'
                go_simp
                with_reducible rfl
              rotate_left
              · simp only [Act.put, List.setIfInBounds_toArray, List.set_cons_zero, List.set_cons_succ, i64_w, i32_w]
                rfl
              refine one_ (i := 6) (N := some 89) #[true, true, true, true, true, true, true, true, true, true, true, true, true, true, true, true, true, true, false, false] rfl rfl (one_of HT_.out (by kernel_rfl)) (by decide) (fun K hK => ?_)
              refine goes_ Try.func42 (by kernel_rfl) rfl #[(.pointer (some ⟨gr, 0, none⟩)), (.int .i64 1)] (by rfl) rfl rfl (by (try simp only [List.map_toArray, List.map_cons, List.map_nil]); first | done | rfl) ?_
              with_reducible refine (onum_c gr (encN l0 j (m + 1) ++ tl) 0 1 y (encN l0 (j + 1) m ++ tl, 0) _ ?s0 ?s1 HNUM.out).mono ?_
              (case s0 => exact (by repeat (first | (with_reducible first | exact HRR.out | apply Rb.alloc | apply Rb.drewN | apply Rb.drew))))
              (case s1 => exact (encN_bytes l0 (m + 1) j).app HTL.out)
              rintro e w_42 ⟨rfl, hr, hk⟩
              refine ⟨_, rfl, ?_⟩
              have HRR2 := Aside0.mk hr
              have HSZ2 := Aside0.mk (Sz.kp (by repeat (first | (with_reducible first | exact HSZ.out | apply Sz.alloc | apply Sz.drewN | apply Sz.drew))) hk HNE.out)
              have n_ := Aside0.mk (below_kp (by repeat (first | (with_reducible first | exact HB.out | apply below_alloc | apply pw_below_drewN | apply below_drew1) | exact HB.out)) hk HGR.out (below_size (by repeat (first | (with_reducible first | exact HB.out | apply below_alloc | apply pw_below_drewN | apply below_drew1) | exact HB.out))))
              have HB := n_
              clear n_ hk hr
              refine hK.out _ _ ⟨by have := Sz.at_ HSZ2.out j; rw [hsj] at this; exact this, (Below.cell (B := w.heap.size) (w := w) HB.out (World.block_lt_of_cell? w _ HX0.out)).trans HX0.out⟩ (fun hHeld => ?_)
              clear hK K
              refine norm_ (a' := ?_) ?_ ?_
              rotate_left
              · show Act.put _ (some 89) _ = _
                simp only [Act.put, List.setIfInBounds_toArray, List.set_cons_zero, List.set_cons_succ, i64_w, i32_w]
                rfl
              refine one_ (i := 18) (N := some 101) #[true, true, true, true, true, true, true, true, true, true, true, true, true, true, true, true, true, true, true, false] rfl rfl (one_of HT_.out (by kernel_rfl)) (by decide) (fun K hK => ?_)
              refine goes_ Try.func32 (by kernel_rfl) rfl #[(.int .i64 x), (.int .i64 256)] (by rfl) rfl rfl (by (try simp only [List.map_toArray, List.map_cons, List.map_nil]); first | done | rfl) ?_
              with_reducible refine (bring_c x 256 _ HXW.out (by decide) (by decide)).mono ?_
              rintro e w_32 ⟨rfl, rfl⟩
              refine ⟨_, rfl, ?_⟩
              rw [HBR.out]
              refine hK.out _ _ ⟨by have := Sz.at_ (by repeat (first | (with_reducible first | exact HSZ2.out | apply Sz.alloc | apply Sz.drewN | apply Sz.drew))) j; rw [hsj] at this; exact this, (Below.cell (B := w.heap.size) (w := w) (by repeat (first | (with_reducible first | exact HB.out | apply below_alloc | apply pw_below_drewN | apply below_drew1) | exact HB.out)) (World.block_lt_of_cell? w _ HX0.out)).trans HX0.out⟩ (fun hHeld => ?_)
              clear hK K
              refine norm_ (a' := ?_) ?_ ?_
              rotate_left
              · show Act.put _ (some 101) _ = _
                simp only [Act.put, List.setIfInBounds_toArray, List.set_cons_zero, List.set_cons_succ, i64_w, i32_w]
                rfl
              refine pure_ (i := 19) (N := some 102) (v := ?_) (a' := ?_) #[true, true, true, true, true, true, true, true, true, true, true, true, true, true, true, true, true, true, true, true] rfl rfl (any_of HT_.out (by kernel_rfl)) (fun _ _ _ h => h) (Or.inl ⟨by rfl, ?_⟩) ?_ ?_
              rotate_left
              · intro w'
                go_simp
                with_reducible rfl
              rotate_left
              · simp only [Act.put, List.setIfInBounds_toArray, List.set_cons_zero, List.set_cons_succ, i64_w, i32_w]
                rfl
              refine done_ (done_of HT_.out (by kernel_rfl)) ?_

              go_wp2
              go_roundg m
              case measure => omega
              case rel => exact ⟨j + 1, by omega, by go_num, ⟨(by repeat (first | (with_reducible first | exact HRR2.out | apply Rb.alloc | apply Rb.drewN | apply Rb.drew)))⟩, ⟨(by repeat (first | (with_reducible first | exact HSZ2.out | apply Sz.alloc | apply Sz.drewN | apply Sz.drew)))⟩, ⟨(by repeat (first | (with_reducible first | exact HB.out | apply below_alloc | apply pw_below_drewN | apply below_drew1) | exact HB.out))⟩⟩

            · have hsz1 := HSZ.out.at_ j
              rw [hsj] at hsz1
              have HBR := Aside0.mk (show x % 65536 = y by rw [← HY0.out]; unfold brOf; rw [hsj, HXE.out]; rfl)
              have HNUM := Aside0.mk (show rNum (encN l0 j (m + 1) ++ tl) 0 2 = (y, encN l0 (j + 1) m ++ tl, 0) by have := rNum_enc l0 j m tl; rw [hsj, HY0.out] at this; exact this)
              have k8 : wrap64 (16 : Int) = 16 := by unfold wrap64; omega
              have k9 : wrap64 (65536 : Int) = 65536 := by unfold wrap64; omega
              have k10 : IntKind.i64.wrap (65536 : Int) = 65536 := by rw [i64_w]; exact k9
              have m1 : ((j : Int)).tmod 3 = (j : Int) % 3 := Int.tmod_eq_emod_of_nonneg (by omega)
              have m2 : (0 ≤ (j : Int) % 3) = True := eq_true (by omega)
              have m3 : ((j : Int) % 3 < 3) = True := eq_true (by omega)
              have m4 : ((j : Int) % 3).toNat = j % 3 := by omega
              go_wp2
              refine start_ (n := 20) (S := fun w' => w'.cell? ⟨gs, j % 3, none⟩ = some (Value.int .i64 2) ∧ w'.cell? (ad.add j) = some (Value.int .i64 x)) (ds := []) #[false, false, false, false, false, false, false, false, false, false, false, false, false, false, false, false, false, false, false, false] (by kernel_rfl) rfl rfl ⟨by have := Sz.at_ (by repeat (first | (with_reducible first | exact HSZ.out | apply Sz.alloc | apply Sz.drewN | apply Sz.drew))) j; rw [hsj] at this; exact this, (Below.cell (B := w.heap.size) (w := w) (by repeat (first | (with_reducible first | exact HB.out | apply below_alloc | apply pw_below_drewN | apply below_drew1) | exact HB.out)) (World.block_lt_of_cell? w _ HX0.out)).trans HX0.out⟩ (fun hHeld => ?_)
              refine with_tabW r9_21.tab r9_21.bits (fun HT_ HW_ => ?_)
              refine pure_ (i := 0) (N := some 83) (v := ?_) (a' := ?_) #[true, false, false, false, false, false, false, false, false, false, false, false, false, false, false, false, false, false, false, false] rfl rfl (any_of HT_.out (by kernel_rfl)) (fun _ _ _ h => h) (Or.inl ⟨by rfl, ?_⟩) ?_ ?_
              rotate_left
              · intro w'
                go_simp
                with_reducible rfl
              rotate_left
              · simp only [Act.put, List.setIfInBounds_toArray, List.set_cons_zero, List.set_cons_succ, i64_w, i32_w]
                rfl
              refine pure_ (i := 1) (N := some 84) (v := ?_) (a' := ?_) #[true, true, false, false, false, false, false, false, false, false, false, false, false, false, false, false, false, false, false, false] rfl rfl (any_of HT_.out (by kernel_rfl)) (fun _ _ _ h => h) (Or.inl ⟨by rfl, ?_⟩) ?_ ?_
              rotate_left
              · intro w'
                go_simp
                with_reducible rfl
              rotate_left
              · simp only [Act.put, List.setIfInBounds_toArray, List.set_cons_zero, List.set_cons_succ, i64_w, i32_w]
                rfl
              refine pure_ (i := 2) (N := some 85) (v := ?_) (a' := ?_) #[true, true, true, false, false, false, false, false, false, false, false, false, false, false, false, false, false, false, false, false] rfl rfl (any_of HT_.out (by kernel_rfl)) (fun _ _ _ h => h) (Or.inl ⟨by rfl, ?_⟩) ?_ ?_
              rotate_left
              · intro w'
                go_simp
                with_reducible rfl
              rotate_left
              · simp only [Act.put, List.setIfInBounds_toArray, List.set_cons_zero, List.set_cons_succ, i64_w, i32_w]
                rfl
              refine pure_ (i := 3) (N := some 86) (v := ?_) (a' := ?_) #[true, true, true, true, false, false, false, false, false, false, false, false, false, false, false, false, false, false, false, false] rfl rfl (any_of HT_.out (by kernel_rfl)) (fun _ _ _ h => h) (Or.inl ⟨by rfl, ?_⟩) ?_ ?_
              rotate_left
              · intro w'
                go_simp
                with_reducible rfl
              rotate_left
              · simp only [Act.put, List.setIfInBounds_toArray, List.set_cons_zero, List.set_cons_succ, i64_w, i32_w]
                rfl
              refine pure_ (i := 4) (N := some 87) (v := ?_) (a' := ?_) #[true, true, true, true, true, false, false, false, false, false, false, false, false, false, false, false, false, false, false, false] rfl rfl (any_of HT_.out (by kernel_rfl)) (fun _ _ _ h => h) (Or.inl ⟨by rfl, ?_⟩) ?_ ?_
              rotate_left
              · intro w'
                go_simp
                with_reducible rfl
              rotate_left
              · simp only [Act.put, List.setIfInBounds_toArray, List.set_cons_zero, List.set_cons_succ, i64_w, i32_w]
                rfl
              refine pure_ (i := 7) (N := some 90) (v := ?_) (a' := ?_) #[true, true, true, true, true, false, false, true, false, false, false, false, false, false, false, false, false, false, false, false] rfl rfl (any_of HT_.out (by kernel_rfl)) (fun _ _ _ h => h) (Or.inl ⟨by rfl, ?_⟩) ?_ ?_
              rotate_left
              · intro w'
                go_simp
                with_reducible rfl
              rotate_left
              · simp only [Act.put, List.setIfInBounds_toArray, List.set_cons_zero, List.set_cons_succ, i64_w, i32_w]
                rfl
              refine pure_ (i := 8) (N := some 91) (v := ?_) (a' := ?_) #[true, true, true, true, true, false, false, true, true, false, false, false, false, false, false, false, false, false, false, false] rfl rfl (any_of HT_.out (by kernel_rfl)) (fun _ _ _ h => h) (Or.inl ⟨by rfl, ?_⟩) ?_ ?_
              rotate_left
              · intro w'
                go_simp
                with_reducible rfl
              rotate_left
              · simp only [Act.put, List.setIfInBounds_toArray, List.set_cons_zero, List.set_cons_succ, i64_w, i32_w]
                rfl
              refine pure_ (i := 9) (N := some 92) (v := ?_) (a' := ?_) #[true, true, true, true, true, false, false, true, true, true, false, false, false, false, false, false, false, false, false, false] rfl rfl (any_of HT_.out (by kernel_rfl)) (fun _ _ _ h => h) (Or.inl ⟨by rfl, ?_⟩) ?_ ?_
              rotate_left
              · intro w'
                go_simp
                with_reducible rfl
              rotate_left
              · simp only [Act.put, List.setIfInBounds_toArray, List.set_cons_zero, List.set_cons_succ, i64_w, i32_w]
                rfl
              refine pure_ (i := 11) (N := some 94) (v := ?_) (a' := ?_) #[true, true, true, true, true, false, false, true, true, true, false, true, false, false, false, false, false, false, false, false] rfl rfl (any_of HT_.out (by kernel_rfl)) (fun _ _ _ h => h) (Or.inl ⟨by rfl, ?_⟩) ?_ ?_
              rotate_left
              · intro w'
                go_simp
                with_reducible rfl
              rotate_left
              · simp only [Act.put, List.setIfInBounds_toArray, List.set_cons_zero, List.set_cons_succ, i64_w, i32_w]
                rfl
              refine pure_ (i := 12) (N := some 95) (v := ?_) (a' := ?_) #[true, true, true, true, true, false, false, true, true, true, false, true, true, false, false, false, false, false, false, false] rfl rfl (any_of HT_.out (by kernel_rfl)) (fun _ _ _ h => h) (Or.inl ⟨by rfl, ?_⟩) ?_ ?_
              rotate_left
              · intro w'
                go_simp
                with_reducible rfl
              rotate_left
              · simp only [Act.put, List.setIfInBounds_toArray, List.set_cons_zero, List.set_cons_succ, i64_w, i32_w]
                rfl
              refine pure_ (i := 13) (N := some 96) (v := ?_) (a' := ?_) #[true, true, true, true, true, false, false, true, true, true, false, true, true, true, false, false, false, false, false, false] rfl rfl (any_of HT_.out (by kernel_rfl)) (fun _ _ _ h => h) (Or.inl ⟨by rfl, ?_⟩) ?_ ?_
              rotate_left
              · intro w'
                go_simp
                with_reducible rfl
              rotate_left
              · simp only [Act.put, List.setIfInBounds_toArray, List.set_cons_zero, List.set_cons_succ, i64_w, i32_w]
                rfl
              refine pure_ (i := 14) (N := some 97) (v := ?_) (a' := ?_) #[true, true, true, true, true, false, false, true, true, true, false, true, true, true, true, false, false, false, false, false] rfl rfl (any_of HT_.out (by kernel_rfl)) (fun _ _ _ h => h) (Or.inl ⟨by rfl, ?_⟩) ?_ ?_
              rotate_left
              · intro w'
                go_simp
                with_reducible rfl
              rotate_left
              · simp only [Act.put, List.setIfInBounds_toArray, List.set_cons_zero, List.set_cons_succ, i64_w, i32_w]
                rfl
              refine take_ (i := 5) (N := some 88) (v := ?_) (a' := ?_) #[true, true, true, true, true, true, false, true, true, true, false, true, true, true, true, false, false, false, false, false] rfl rfl (take_ofW HT_.out HW_.out (by kernel_rfl)) (fun _ _ _ h => h) (Or.inl ⟨by rfl, ?_⟩) hHeld ?_ ?_
              rotate_left
              · rintro w' ⟨s0, s1⟩
                go_simp
                with_reducible rfl
              rotate_left
              · simp only [Act.put, List.setIfInBounds_toArray, List.set_cons_zero, List.set_cons_succ, i64_w, i32_w]
                rfl
              refine take_ (i := 10) (N := some 93) (v := ?_) (a' := ?_) #[true, true, true, true, true, true, false, true, true, true, true, true, true, true, true, false, false, false, false, false] rfl rfl (take_ofW HT_.out HW_.out (by kernel_rfl)) (fun _ _ _ h => h) (Or.inl ⟨by rfl, ?_⟩) hHeld ?_ ?_
              rotate_left
              · rintro w' ⟨s0, s1⟩
                go_simp
                with_reducible rfl
              rotate_left
              · simp only [Act.put, List.setIfInBounds_toArray, List.set_cons_zero, List.set_cons_succ, i64_w, i32_w]
                rfl
              refine take_ (i := 15) (N := some 98) (v := ?_) (a' := ?_) #[true, true, true, true, true, true, false, true, true, true, true, true, true, true, true, true, false, false, false, false] rfl rfl (take_ofW HT_.out HW_.out (by kernel_rfl)) (fun _ _ _ h => h) (Or.inl ⟨by rfl, ?_⟩) hHeld ?_ ?_
              rotate_left
              · rintro w' ⟨s0, s1⟩
                go_simp
                with_reducible rfl
              rotate_left
              · simp only [Act.put, List.setIfInBounds_toArray, List.set_cons_zero, List.set_cons_succ, i64_w, i32_w]
                rfl
              refine pure_ (i := 16) (N := some 99) (v := ?_) (a' := ?_) #[true, true, true, true, true, true, false, true, true, true, true, true, true, true, true, true, true, false, false, false] rfl rfl (any_of HT_.out (by kernel_rfl)) (fun _ _ _ h => h) (Or.inl ⟨by rfl, ?_⟩) ?_ ?_
              rotate_left
              · intro w'
                go_simp
                with_reducible rfl
              rotate_left
              · simp only [Act.put, List.setIfInBounds_toArray, List.set_cons_zero, List.set_cons_succ, i64_w, i32_w]
                rfl
              refine pure_ (i := 17) (N := some 100) (v := ?_) (a' := ?_) #[true, true, true, true, true, true, false, true, true, true, true, true, true, true, true, true, true, true, false, false] rfl rfl (any_of HT_.out (by kernel_rfl)) (fun _ _ _ h => h) (Or.inl ⟨by rfl, ?_⟩) ?_ ?_
              rotate_left
              · intro w'
                go_simp
                with_reducible rfl
              rotate_left
              · simp only [Act.put, List.setIfInBounds_toArray, List.set_cons_zero, List.set_cons_succ, i64_w, i32_w]
                rfl
              refine one_ (i := 6) (N := some 89) #[true, true, true, true, true, true, true, true, true, true, true, true, true, true, true, true, true, true, false, false] rfl rfl (one_of HT_.out (by kernel_rfl)) (by decide) (fun K hK => ?_)
              refine goes_ Try.func42 (by kernel_rfl) rfl #[(.pointer (some ⟨gr, 0, none⟩)), (.int .i64 2)] (by rfl) rfl rfl (by (try simp only [List.map_toArray, List.map_cons, List.map_nil]); first | done | rfl) ?_
              with_reducible refine (onum_c gr (encN l0 j (m + 1) ++ tl) 0 2 y (encN l0 (j + 1) m ++ tl, 0) _ ?s0 ?s1 HNUM.out).mono ?_
              (case s0 => exact (by repeat (first | (with_reducible first | exact HRR.out | apply Rb.alloc | apply Rb.drewN | apply Rb.drew))))
              (case s1 => exact (encN_bytes l0 (m + 1) j).app HTL.out)
              rintro e w_42 ⟨rfl, hr, hk⟩
              refine ⟨_, rfl, ?_⟩
              have HRR2 := Aside0.mk hr
              have HSZ2 := Aside0.mk (Sz.kp (by repeat (first | (with_reducible first | exact HSZ.out | apply Sz.alloc | apply Sz.drewN | apply Sz.drew))) hk HNE.out)
              have n_ := Aside0.mk (below_kp (by repeat (first | (with_reducible first | exact HB.out | apply below_alloc | apply pw_below_drewN | apply below_drew1) | exact HB.out)) hk HGR.out (below_size (by repeat (first | (with_reducible first | exact HB.out | apply below_alloc | apply pw_below_drewN | apply below_drew1) | exact HB.out))))
              have HB := n_
              clear n_ hk hr
              refine hK.out _ _ ⟨by have := Sz.at_ HSZ2.out j; rw [hsj] at this; exact this, (Below.cell (B := w.heap.size) (w := w) HB.out (World.block_lt_of_cell? w _ HX0.out)).trans HX0.out⟩ (fun hHeld => ?_)
              clear hK K
              refine norm_ (a' := ?_) ?_ ?_
              rotate_left
              · show Act.put _ (some 89) _ = _
                simp only [Act.put, List.setIfInBounds_toArray, List.set_cons_zero, List.set_cons_succ, i64_w, i32_w]
                rfl
              refine one_ (i := 18) (N := some 101) #[true, true, true, true, true, true, true, true, true, true, true, true, true, true, true, true, true, true, true, false] rfl rfl (one_of HT_.out (by kernel_rfl)) (by decide) (fun K hK => ?_)
              refine goes_ Try.func32 (by kernel_rfl) rfl #[(.int .i64 x), (.int .i64 65536)] (by rfl) rfl rfl (by (try simp only [List.map_toArray, List.map_cons, List.map_nil]); first | done | rfl) ?_
              with_reducible refine (bring_c x 65536 _ HXW.out (by decide) (by decide)).mono ?_
              rintro e w_32 ⟨rfl, rfl⟩
              refine ⟨_, rfl, ?_⟩
              rw [HBR.out]
              refine hK.out _ _ ⟨by have := Sz.at_ (by repeat (first | (with_reducible first | exact HSZ2.out | apply Sz.alloc | apply Sz.drewN | apply Sz.drew))) j; rw [hsj] at this; exact this, (Below.cell (B := w.heap.size) (w := w) (by repeat (first | (with_reducible first | exact HB.out | apply below_alloc | apply pw_below_drewN | apply below_drew1) | exact HB.out)) (World.block_lt_of_cell? w _ HX0.out)).trans HX0.out⟩ (fun hHeld => ?_)
              clear hK K
              refine norm_ (a' := ?_) ?_ ?_
              rotate_left
              · show Act.put _ (some 101) _ = _
                simp only [Act.put, List.setIfInBounds_toArray, List.set_cons_zero, List.set_cons_succ, i64_w, i32_w]
                rfl
              refine pure_ (i := 19) (N := some 102) (v := ?_) (a' := ?_) #[true, true, true, true, true, true, true, true, true, true, true, true, true, true, true, true, true, true, true, true] rfl rfl (any_of HT_.out (by kernel_rfl)) (fun _ _ _ h => h) (Or.inl ⟨by rfl, ?_⟩) ?_ ?_
              rotate_left
              · intro w'
                go_simp
                with_reducible rfl
              rotate_left
              · simp only [Act.put, List.setIfInBounds_toArray, List.set_cons_zero, List.set_cons_succ, i64_w, i32_w]
                rfl
              refine done_ (done_of HT_.out (by kernel_rfl)) ?_

              go_wp2
              go_roundg m
              case measure => omega
              case rel => exact ⟨j + 1, by omega, by go_num, ⟨(by repeat (first | (with_reducible first | exact HRR2.out | apply Rb.alloc | apply Rb.drewN | apply Rb.drew)))⟩, ⟨(by repeat (first | (with_reducible first | exact HSZ2.out | apply Sz.alloc | apply Sz.drewN | apply Sz.drew)))⟩, ⟨(by repeat (first | (with_reducible first | exact HB.out | apply below_alloc | apply pw_below_drewN | apply below_drew1) | exact HB.out))⟩⟩

            · have hsz1 := HSZ.out.at_ j
              rw [hsj] at hsz1
              have HBR := Aside0.mk (show x % 4294967296 = y by rw [← HY0.out]; unfold brOf; rw [hsj, HXE.out]; rfl)
              have HNUM := Aside0.mk (show rNum (encN l0 j (m + 1) ++ tl) 0 4 = (y, encN l0 (j + 1) m ++ tl, 0) by have := rNum_enc l0 j m tl; rw [hsj, HY0.out] at this; exact this)
              have k8 : wrap64 (32 : Int) = 32 := by unfold wrap64; omega
              have k9 : wrap64 (4294967296 : Int) = 4294967296 := by unfold wrap64; omega
              have k10 : IntKind.i64.wrap (4294967296 : Int) = 4294967296 := by rw [i64_w]; exact k9
              have m1 : ((j : Int)).tmod 3 = (j : Int) % 3 := Int.tmod_eq_emod_of_nonneg (by omega)
              have m2 : (0 ≤ (j : Int) % 3) = True := eq_true (by omega)
              have m3 : ((j : Int) % 3 < 3) = True := eq_true (by omega)
              have m4 : ((j : Int) % 3).toNat = j % 3 := by omega
              go_wp2
              refine start_ (n := 20) (S := fun w' => w'.cell? ⟨gs, j % 3, none⟩ = some (Value.int .i64 4) ∧ w'.cell? (ad.add j) = some (Value.int .i64 x)) (ds := []) #[false, false, false, false, false, false, false, false, false, false, false, false, false, false, false, false, false, false, false, false] (by kernel_rfl) rfl rfl ⟨by have := Sz.at_ (by repeat (first | (with_reducible first | exact HSZ.out | apply Sz.alloc | apply Sz.drewN | apply Sz.drew))) j; rw [hsj] at this; exact this, (Below.cell (B := w.heap.size) (w := w) (by repeat (first | (with_reducible first | exact HB.out | apply below_alloc | apply pw_below_drewN | apply below_drew1) | exact HB.out)) (World.block_lt_of_cell? w _ HX0.out)).trans HX0.out⟩ (fun hHeld => ?_)
              refine with_tabW r9_21.tab r9_21.bits (fun HT_ HW_ => ?_)
              refine pure_ (i := 0) (N := some 83) (v := ?_) (a' := ?_) #[true, false, false, false, false, false, false, false, false, false, false, false, false, false, false, false, false, false, false, false] rfl rfl (any_of HT_.out (by kernel_rfl)) (fun _ _ _ h => h) (Or.inl ⟨by rfl, ?_⟩) ?_ ?_
              rotate_left
              · intro w'
                go_simp
                with_reducible rfl
              rotate_left
              · simp only [Act.put, List.setIfInBounds_toArray, List.set_cons_zero, List.set_cons_succ, i64_w, i32_w]
                rfl
              refine pure_ (i := 1) (N := some 84) (v := ?_) (a' := ?_) #[true, true, false, false, false, false, false, false, false, false, false, false, false, false, false, false, false, false, false, false] rfl rfl (any_of HT_.out (by kernel_rfl)) (fun _ _ _ h => h) (Or.inl ⟨by rfl, ?_⟩) ?_ ?_
              rotate_left
              · intro w'
                go_simp
                with_reducible rfl
              rotate_left
              · simp only [Act.put, List.setIfInBounds_toArray, List.set_cons_zero, List.set_cons_succ, i64_w, i32_w]
                rfl
              refine pure_ (i := 2) (N := some 85) (v := ?_) (a' := ?_) #[true, true, true, false, false, false, false, false, false, false, false, false, false, false, false, false, false, false, false, false] rfl rfl (any_of HT_.out (by kernel_rfl)) (fun _ _ _ h => h) (Or.inl ⟨by rfl, ?_⟩) ?_ ?_
              rotate_left
              · intro w'
                go_simp
                with_reducible rfl
              rotate_left
              · simp only [Act.put, List.setIfInBounds_toArray, List.set_cons_zero, List.set_cons_succ, i64_w, i32_w]
                rfl
              refine pure_ (i := 3) (N := some 86) (v := ?_) (a' := ?_) #[true, true, true, true, false, false, false, false, false, false, false, false, false, false, false, false, false, false, false, false] rfl rfl (any_of HT_.out (by kernel_rfl)) (fun _ _ _ h => h) (Or.inl ⟨by rfl, ?_⟩) ?_ ?_
              rotate_left
              · intro w'
                go_simp
                with_reducible rfl
              rotate_left
              · simp only [Act.put, List.setIfInBounds_toArray, List.set_cons_zero, List.set_cons_succ, i64_w, i32_w]
                rfl
              refine pure_ (i := 4) (N := some 87) (v := ?_) (a' := ?_) #[true, true, true, true, true, false, false, false, false, false, false, false, false, false, false, false, false, false, false, false] rfl rfl (any_of HT_.out (by kernel_rfl)) (fun _ _ _ h => h) (Or.inl ⟨by rfl, ?_⟩) ?_ ?_
              rotate_left
              · intro w'
                go_simp
                with_reducible rfl
              rotate_left
              · simp only [Act.put, List.setIfInBounds_toArray, List.set_cons_zero, List.set_cons_succ, i64_w, i32_w]
                rfl
              refine pure_ (i := 7) (N := some 90) (v := ?_) (a' := ?_) #[true, true, true, true, true, false, false, true, false, false, false, false, false, false, false, false, false, false, false, false] rfl rfl (any_of HT_.out (by kernel_rfl)) (fun _ _ _ h => h) (Or.inl ⟨by rfl, ?_⟩) ?_ ?_
              rotate_left
              · intro w'
                go_simp
                with_reducible rfl
              rotate_left
              · simp only [Act.put, List.setIfInBounds_toArray, List.set_cons_zero, List.set_cons_succ, i64_w, i32_w]
                rfl
              refine pure_ (i := 8) (N := some 91) (v := ?_) (a' := ?_) #[true, true, true, true, true, false, false, true, true, false, false, false, false, false, false, false, false, false, false, false] rfl rfl (any_of HT_.out (by kernel_rfl)) (fun _ _ _ h => h) (Or.inl ⟨by rfl, ?_⟩) ?_ ?_
              rotate_left
              · intro w'
                go_simp
                with_reducible rfl
              rotate_left
              · simp only [Act.put, List.setIfInBounds_toArray, List.set_cons_zero, List.set_cons_succ, i64_w, i32_w]
                rfl
              refine pure_ (i := 9) (N := some 92) (v := ?_) (a' := ?_) #[true, true, true, true, true, false, false, true, true, true, false, false, false, false, false, false, false, false, false, false] rfl rfl (any_of HT_.out (by kernel_rfl)) (fun _ _ _ h => h) (Or.inl ⟨by rfl, ?_⟩) ?_ ?_
              rotate_left
              · intro w'
                go_simp
                with_reducible rfl
              rotate_left
              · simp only [Act.put, List.setIfInBounds_toArray, List.set_cons_zero, List.set_cons_succ, i64_w, i32_w]
                rfl
              refine pure_ (i := 11) (N := some 94) (v := ?_) (a' := ?_) #[true, true, true, true, true, false, false, true, true, true, false, true, false, false, false, false, false, false, false, false] rfl rfl (any_of HT_.out (by kernel_rfl)) (fun _ _ _ h => h) (Or.inl ⟨by rfl, ?_⟩) ?_ ?_
              rotate_left
              · intro w'
                go_simp
                with_reducible rfl
              rotate_left
              · simp only [Act.put, List.setIfInBounds_toArray, List.set_cons_zero, List.set_cons_succ, i64_w, i32_w]
                rfl
              refine pure_ (i := 12) (N := some 95) (v := ?_) (a' := ?_) #[true, true, true, true, true, false, false, true, true, true, false, true, true, false, false, false, false, false, false, false] rfl rfl (any_of HT_.out (by kernel_rfl)) (fun _ _ _ h => h) (Or.inl ⟨by rfl, ?_⟩) ?_ ?_
              rotate_left
              · intro w'
                go_simp
                with_reducible rfl
              rotate_left
              · simp only [Act.put, List.setIfInBounds_toArray, List.set_cons_zero, List.set_cons_succ, i64_w, i32_w]
                rfl
              refine pure_ (i := 13) (N := some 96) (v := ?_) (a' := ?_) #[true, true, true, true, true, false, false, true, true, true, false, true, true, true, false, false, false, false, false, false] rfl rfl (any_of HT_.out (by kernel_rfl)) (fun _ _ _ h => h) (Or.inl ⟨by rfl, ?_⟩) ?_ ?_
              rotate_left
              · intro w'
                go_simp
                with_reducible rfl
              rotate_left
              · simp only [Act.put, List.setIfInBounds_toArray, List.set_cons_zero, List.set_cons_succ, i64_w, i32_w]
                rfl
              refine pure_ (i := 14) (N := some 97) (v := ?_) (a' := ?_) #[true, true, true, true, true, false, false, true, true, true, false, true, true, true, true, false, false, false, false, false] rfl rfl (any_of HT_.out (by kernel_rfl)) (fun _ _ _ h => h) (Or.inl ⟨by rfl, ?_⟩) ?_ ?_
              rotate_left
              · intro w'
                go_simp
                with_reducible rfl
              rotate_left
              · simp only [Act.put, List.setIfInBounds_toArray, List.set_cons_zero, List.set_cons_succ, i64_w, i32_w]
                rfl
              refine take_ (i := 5) (N := some 88) (v := ?_) (a' := ?_) #[true, true, true, true, true, true, false, true, true, true, false, true, true, true, true, false, false, false, false, false] rfl rfl (take_ofW HT_.out HW_.out (by kernel_rfl)) (fun _ _ _ h => h) (Or.inl ⟨by rfl, ?_⟩) hHeld ?_ ?_
              rotate_left
              · rintro w' ⟨s0, s1⟩
                go_simp
                with_reducible rfl
              rotate_left
              · simp only [Act.put, List.setIfInBounds_toArray, List.set_cons_zero, List.set_cons_succ, i64_w, i32_w]
                rfl
              refine take_ (i := 10) (N := some 93) (v := ?_) (a' := ?_) #[true, true, true, true, true, true, false, true, true, true, true, true, true, true, true, false, false, false, false, false] rfl rfl (take_ofW HT_.out HW_.out (by kernel_rfl)) (fun _ _ _ h => h) (Or.inl ⟨by rfl, ?_⟩) hHeld ?_ ?_
              rotate_left
              · rintro w' ⟨s0, s1⟩
                go_simp
                with_reducible rfl
              rotate_left
              · simp only [Act.put, List.setIfInBounds_toArray, List.set_cons_zero, List.set_cons_succ, i64_w, i32_w]
                rfl
              refine take_ (i := 15) (N := some 98) (v := ?_) (a' := ?_) #[true, true, true, true, true, true, false, true, true, true, true, true, true, true, true, true, false, false, false, false] rfl rfl (take_ofW HT_.out HW_.out (by kernel_rfl)) (fun _ _ _ h => h) (Or.inl ⟨by rfl, ?_⟩) hHeld ?_ ?_
              rotate_left
              · rintro w' ⟨s0, s1⟩
                go_simp
                with_reducible rfl
              rotate_left
              · simp only [Act.put, List.setIfInBounds_toArray, List.set_cons_zero, List.set_cons_succ, i64_w, i32_w]
                rfl
              refine pure_ (i := 16) (N := some 99) (v := ?_) (a' := ?_) #[true, true, true, true, true, true, false, true, true, true, true, true, true, true, true, true, true, false, false, false] rfl rfl (any_of HT_.out (by kernel_rfl)) (fun _ _ _ h => h) (Or.inl ⟨by rfl, ?_⟩) ?_ ?_
              rotate_left
              · intro w'
                go_simp
                with_reducible rfl
              rotate_left
              · simp only [Act.put, List.setIfInBounds_toArray, List.set_cons_zero, List.set_cons_succ, i64_w, i32_w]
                rfl
              refine pure_ (i := 17) (N := some 100) (v := ?_) (a' := ?_) #[true, true, true, true, true, true, false, true, true, true, true, true, true, true, true, true, true, true, false, false] rfl rfl (any_of HT_.out (by kernel_rfl)) (fun _ _ _ h => h) (Or.inl ⟨by rfl, ?_⟩) ?_ ?_
              rotate_left
              · intro w'
                go_simp
                with_reducible rfl
              rotate_left
              · simp only [Act.put, List.setIfInBounds_toArray, List.set_cons_zero, List.set_cons_succ, i64_w, i32_w]
                rfl
              refine one_ (i := 6) (N := some 89) #[true, true, true, true, true, true, true, true, true, true, true, true, true, true, true, true, true, true, false, false] rfl rfl (one_of HT_.out (by kernel_rfl)) (by decide) (fun K hK => ?_)
              refine goes_ Try.func42 (by kernel_rfl) rfl #[(.pointer (some ⟨gr, 0, none⟩)), (.int .i64 4)] (by rfl) rfl rfl (by (try simp only [List.map_toArray, List.map_cons, List.map_nil]); first | done | rfl) ?_
              with_reducible refine (onum_c gr (encN l0 j (m + 1) ++ tl) 0 4 y (encN l0 (j + 1) m ++ tl, 0) _ ?s0 ?s1 HNUM.out).mono ?_
              (case s0 => exact (by repeat (first | (with_reducible first | exact HRR.out | apply Rb.alloc | apply Rb.drewN | apply Rb.drew))))
              (case s1 => exact (encN_bytes l0 (m + 1) j).app HTL.out)
              rintro e w_42 ⟨rfl, hr, hk⟩
              refine ⟨_, rfl, ?_⟩
              have HRR2 := Aside0.mk hr
              have HSZ2 := Aside0.mk (Sz.kp (by repeat (first | (with_reducible first | exact HSZ.out | apply Sz.alloc | apply Sz.drewN | apply Sz.drew))) hk HNE.out)
              have n_ := Aside0.mk (below_kp (by repeat (first | (with_reducible first | exact HB.out | apply below_alloc | apply pw_below_drewN | apply below_drew1) | exact HB.out)) hk HGR.out (below_size (by repeat (first | (with_reducible first | exact HB.out | apply below_alloc | apply pw_below_drewN | apply below_drew1) | exact HB.out))))
              have HB := n_
              clear n_ hk hr
              refine hK.out _ _ ⟨by have := Sz.at_ HSZ2.out j; rw [hsj] at this; exact this, (Below.cell (B := w.heap.size) (w := w) HB.out (World.block_lt_of_cell? w _ HX0.out)).trans HX0.out⟩ (fun hHeld => ?_)
              clear hK K
              refine norm_ (a' := ?_) ?_ ?_
              rotate_left
              · show Act.put _ (some 89) _ = _
                simp only [Act.put, List.setIfInBounds_toArray, List.set_cons_zero, List.set_cons_succ, i64_w, i32_w]
                rfl
              refine one_ (i := 18) (N := some 101) #[true, true, true, true, true, true, true, true, true, true, true, true, true, true, true, true, true, true, true, false] rfl rfl (one_of HT_.out (by kernel_rfl)) (by decide) (fun K hK => ?_)
              refine goes_ Try.func32 (by kernel_rfl) rfl #[(.int .i64 x), (.int .i64 4294967296)] (by rfl) rfl rfl (by (try simp only [List.map_toArray, List.map_cons, List.map_nil]); first | done | rfl) ?_
              with_reducible refine (bring_c x 4294967296 _ HXW.out (by decide) (by decide)).mono ?_
              rintro e w_32 ⟨rfl, rfl⟩
              refine ⟨_, rfl, ?_⟩
              rw [HBR.out]
              refine hK.out _ _ ⟨by have := Sz.at_ (by repeat (first | (with_reducible first | exact HSZ2.out | apply Sz.alloc | apply Sz.drewN | apply Sz.drew))) j; rw [hsj] at this; exact this, (Below.cell (B := w.heap.size) (w := w) (by repeat (first | (with_reducible first | exact HB.out | apply below_alloc | apply pw_below_drewN | apply below_drew1) | exact HB.out)) (World.block_lt_of_cell? w _ HX0.out)).trans HX0.out⟩ (fun hHeld => ?_)
              clear hK K
              refine norm_ (a' := ?_) ?_ ?_
              rotate_left
              · show Act.put _ (some 101) _ = _
                simp only [Act.put, List.setIfInBounds_toArray, List.set_cons_zero, List.set_cons_succ, i64_w, i32_w]
                rfl
              refine pure_ (i := 19) (N := some 102) (v := ?_) (a' := ?_) #[true, true, true, true, true, true, true, true, true, true, true, true, true, true, true, true, true, true, true, true] rfl rfl (any_of HT_.out (by kernel_rfl)) (fun _ _ _ h => h) (Or.inl ⟨by rfl, ?_⟩) ?_ ?_
              rotate_left
              · intro w'
                go_simp
                with_reducible rfl
              rotate_left
              · simp only [Act.put, List.setIfInBounds_toArray, List.set_cons_zero, List.set_cons_succ, i64_w, i32_w]
                rfl
              refine done_ (done_of HT_.out (by kernel_rfl)) ?_

              go_wp2
              go_roundg m
              case measure => omega
              case rel => exact ⟨j + 1, by omega, by go_num, ⟨(by repeat (first | (with_reducible first | exact HRR2.out | apply Rb.alloc | apply Rb.drewN | apply Rb.drew)))⟩, ⟨(by repeat (first | (with_reducible first | exact HSZ2.out | apply Sz.alloc | apply Sz.drewN | apply Sz.drew)))⟩, ⟨(by repeat (first | (with_reducible first | exact HB.out | apply below_alloc | apply pw_below_drewN | apply below_drew1) | exact HB.out))⟩⟩

          · obtain rfl : j = i := by omega
            have HRT := Aside0.mk (show Rb wr 60 gr tl 0 by have h := HRR.out; have e : gk = 0 := (by omega); rw [e] at h; exact h)
            clear HRR hj
            have y20 : decide ((j : Int) < (l0.length : Int)) = false := decide_eq_false (by have := HNN.out; omega)
            have y21 : decide (j < l0.length) = false := decide_eq_false (by have := HNN.out; omega)
            by_cases hz : 0 < lt.length
            · have HEND := Aside0.mk (show rEnd lt 0 = 4 by unfold rEnd; rw [if_pos ⟨rfl, hz⟩])
              have w1 : ((lt.length : Int) == 0) = false := beq_eq_false_iff_ne.mpr (by omega)
              have w2 : (lt.length == 0) = false := beq_eq_false_iff_ne.mpr (by omega)
              clear hz
              go_wp2_with (first | (go_at_call 44; (with_reducible refine (otext_c gr tl 0 ls lt 0 _ ?s0 ?s1 ?s2 HTX.out).mono ?_); (case s0 => exact HRT.out); (case s1 => exact HTL.out); (case s2 => exact HTLL.out); rintro e wX ⟨vx, rfl, ho, hr, hk⟩; have HX1 := Aside0.mk ho; have HRX := Aside0.mk hr; have n_ := Aside0.mk (below_kp HB.out hk HGR.out HB.out.size); have HB := n_; clear n_ ho hr hk) | (go_at_call 26; (with_reducible refine (eqb_v _ _ ls ls _ ?s0 ?s1 rfl).mono ?_); (case s0 => exact HX1.out.bv); (case s1 => exact H1.out.mv HB.out); rintro e w_26 ⟨rfl, rfl⟩) | (go_at_call 46; (with_reducible refine (oleft_c gr lt 0 _ ?s0).mono ?_); (case s0 => exact HRX.out); rintro e w1 ⟨rfl, rfl⟩) | (go_at_call 48; (with_reducible refine (oerr_c gr lt 0 _ ?s0).mono ?_); (case s0 => exact HRX.out); rintro e w1 ⟨rfl, rfl⟩) | (go_at_call 50; (with_reducible refine (oend_c gr lt 0 4 _ ?s0 HEND.out).mono ?_); (case s0 => exact HRX.out); rintro e w1 ⟨rfl, rfl⟩))
              go_ret
              exact ⟨by simp, HB.out⟩
            · have HEND := Aside0.mk (show rEnd lt 0 = 0 by unfold rEnd; rw [if_neg (fun h => hz h.2)])
              have w1 : ((lt.length : Int) == 0) = true := beq_iff_eq.mpr (by omega)
              have w2 : (lt.length == 0) = true := beq_iff_eq.mpr (by omega)
              clear hz
              go_wp2_with (first | (go_at_call 44; (with_reducible refine (otext_c gr tl 0 ls lt 0 _ ?s0 ?s1 ?s2 HTX.out).mono ?_); (case s0 => exact HRT.out); (case s1 => exact HTL.out); (case s2 => exact HTLL.out); rintro e wX ⟨vx, rfl, ho, hr, hk⟩; have HX1 := Aside0.mk ho; have HRX := Aside0.mk hr; have n_ := Aside0.mk (below_kp HB.out hk HGR.out HB.out.size); have HB := n_; clear n_ ho hr hk) | (go_at_call 26; (with_reducible refine (eqb_v _ _ ls ls _ ?s0 ?s1 rfl).mono ?_); (case s0 => exact HX1.out.bv); (case s1 => exact H1.out.mv HB.out); rintro e w_26 ⟨rfl, rfl⟩) | (go_at_call 46; (with_reducible refine (oleft_c gr lt 0 _ ?s0).mono ?_); (case s0 => exact HRX.out); rintro e w1 ⟨rfl, rfl⟩) | (go_at_call 48; (with_reducible refine (oerr_c gr lt 0 _ ?s0).mono ?_); (case s0 => exact HRX.out); rintro e w1 ⟨rfl, rfl⟩) | (go_at_call 50; (with_reducible refine (oend_c gr lt 0 0 _ ?s0 HEND.out).mono ?_); (case s0 => exact HRX.out); rintro e w1 ⟨rfl, rfl⟩))
              go_ret
              exact ⟨by simp, HB.out⟩
      · have HNN := Aside0.mk (show i = 20 by omega)
        have y20 : decide ((i : Int) < (l0.length : Int)) = true := decide_eq_true (by omega)
        have y21 : decide (i < l0.length) = true := decide_eq_true (by omega)
        have z20 : decide ((i : Int) < 20) = false := decide_eq_false (by omega)
        have z21 : decide (i < 20) = false := decide_eq_false (by omega)
        clear hi2 hgo
        have HLB := Aside0.mk (show bs.length ≤ 80 by rw [HE.out]; have := encN_len l0 i 0; omega)
        go_wp2_with (first | (go_at_call 22; (with_reducible refine (otext_v _ _ bs ls (bs ++ dig 2 ls.length ++ ls) 0 _ ?s0 ?s1 ?s2 (textS_ok bs ls (by have := HCUT.out; omega))).mono ?_); (case s0 => exact HO.out.bv); (case s1 => exact H1.out.mv HB.out); (case s2 => have := HLB.out; omega); rintro e wT ⟨vt, rfl, ho, hb⟩; have HTG := Aside0.mk (show ∀ k, vt.ownBlock = some k → k ≠ gs from fun k hk => by have := ho.block_ge k hk; have := HSZ.out.lt; omega); have HO_t := Aside0.mk (ho.lower HB.out.size); have HSZt := Aside0.mk (HSZ.out.mv hb); have n_ := Aside0.mk (below_step HB.out hb); have HB := n_; clear n_ ho hb) | ((with_reducible refine gate_builtin (b := .append) (xs := #[.tmp 63, .tmp 64]) rfl ?_); at_builtin; refine app_arm (w0 := w) w.heap.size rfl (.tmp 63) (.tmp 64) rfl _ (bs ++ dig 2 ls.length ++ ls) lt _ _ _ rfl rfl ?aO ?aR ?aM ?aB ?aS ?aL ?_; (case aO => exact HO_t.out); (case aR => exact (H2.out.mv (by repeat (first | (with_reducible first | exact HB.out | apply below_alloc | apply pw_below_drewN | apply below_drew1) | exact HB.out)))); (case aM => first | rfl | simp); (case aB => exact (by repeat (first | (with_reducible first | exact HB.out | apply below_alloc | apply pw_below_drewN | apply below_drew1) | exact HB.out))); (case aS => exact below_size (by repeat (first | (with_reducible first | exact HB.out | apply below_alloc | apply pw_below_drewN | apply below_drew1) | exact HB.out))); (case aL => (have := HLB.out; have := HCUT.out; have := HY2.out; simp only [List.length_append, dig_length]; omega)); intro v_d w_d ho hb hg hat; have n_ := Aside0.mk hb; clear HB; have HB := n_; clear n_; have HO_d := Aside0.mk ho; have HSZd := Aside0.mk (show Sz w_d gs from (hg.block gs HSZt.out.lt (fun h => HTG.out gs h.symm rfl)).trans HSZt.out); clear ho hb; skip) | (go_at_call 40; (with_reducible refine (oread_v _ (bs ++ dig 2 ls.length ++ ls ++ lt) _ ?s0).mono ?_); (case s0 => exact HO_d.out.bv); rintro e wR ⟨gr, rfl, hgr, hr, hb⟩; have HRR := Aside0.mk hr; have HSZ3 := Aside0.mk (HSZd.out.mv hb); have HGR := Aside0.mk (show w.heap.size ≤ gr from by rw [hgr]; exact HB.out.size); have HNE := Aside0.mk (show gs ≠ gr from by have := HSZd.out.lt; omega); have n_ := Aside0.mk (below_step HB.out hb); have HB := n_; clear n_ hr hb hgr))
        have HTL := Aside0.mk (show bytesP (dig 2 ls.length ++ ls ++ lt) from ((dig_bytes _ _).app HB1.out).app HB2.out)
        have HTLL := Aside0.mk (show (dig 2 ls.length ++ ls ++ lt).length < 140737488355328 by have := HCUT.out; have := HY2.out; simp only [List.length_append, dig_length]; omega)
        have HTX := Aside0.mk (rText_put ls lt (by have := HCUT.out; omega))
        have HRR0 := Aside0.mk (show Rb wR 60 gr (encN l0 0 i ++ (dig 2 ls.length ++ ls ++ lt)) 0 by have := HRR.out; rw [HE.out] at this; simpa only [List.append_assoc] using this)
        have HIL := Aside0.mk hil
        have HI20 := Aside0.mk (show i ≤ 20 by omega)
        obtain ⟨tl, htl⟩ : ∃ tl, dig 2 ls.length ++ ls ++ lt = tl := ⟨_, rfl⟩
        rw [htl] at HTL HTLL HTX HRR0
        clear htl HRR z20 z21
        go_loopg [15] i (fun m v15 w' => ∃ j : Nat, j + m = i ∧ v15 = .int .i64 j ∧ Aside0 (Rb w' 60 gr (encN l0 j m ++ tl) 0) ∧ Aside0 (Sz w' gs) ∧ Aside0 (Below w.heap.size w w'))
        case atStart => exact ⟨0, by omega, rfl, HRR0, HSZ3, HB⟩
        case round =>
          clear HB HSZ HSZ3 HRR0 HSZt HSZd
          obtain ⟨j, hj, rfl, HRR, HSZ, HB⟩ := hrel
          by_cases hgo : j < i
          · obtain ⟨m, rfl⟩ : ∃ m, gk = m + 1 := ⟨gk - 1, by omega⟩
            have y20 : decide ((j : Int) < (l0.length : Int)) = true := decide_eq_true (by omega)
            have y21 : decide (j < l0.length) = true := decide_eq_true (by omega)
            have z20 : decide ((j : Int) < 20) = true := decide_eq_true (by have := HI20.out; omega)
            have z21 : decide (j < 20) = true := decide_eq_true (by have := HI20.out; omega)
            obtain ⟨ad, e1, hx⟩ := H0.out.atN j (by omega)
            subst e1
            obtain ⟨x, hx0⟩ : ∃ x, l0.getD j 0 = x := ⟨_, rfl⟩
            rw [hx0] at hx
            have HX0 := Aside0.mk hx
            have HXE := Aside0.mk hx0
            have HXW := Aside0.mk (H0W.out x (hx0 ▸ getD_mem l0 j (by omega)))
            replace hx := (HB.out.cell (World.block_lt_of_cell? w _ hx)).trans hx
            have q1 : (j : Int) < (l0.length : Int) := by omega
            replace q1 := eq_true q1
            obtain ⟨y, hy0⟩ : ∃ y, brOf l0 j = y := ⟨_, rfl⟩
            have HY0 := Aside0.mk hy0
            clear hx0 hy0
            rcases szOf_cases j with hsj | hsj | hsj
            · have hsz1 := HSZ.out.at_ j
              rw [hsj] at hsz1
              have HBR := Aside0.mk (show x % 256 = y by rw [← HY0.out]; unfold brOf; rw [hsj, HXE.out]; rfl)
              have HNUM := Aside0.mk (show rNum (encN l0 j (m + 1) ++ tl) 0 1 = (y, encN l0 (j + 1) m ++ tl, 0) by have := rNum_enc l0 j m tl; rw [hsj, HY0.out] at this; exact this)
              have k8 : wrap64 (8 : Int) = 8 := by unfold wrap64; omega
              have k9 : wrap64 (256 : Int) = 256 := by unfold wrap64; omega
              have k10 : IntKind.i64.wrap (256 : Int) = 256 := by rw [i64_w]; exact k9
              have m1 : ((j : Int)).tmod 3 = (j : Int) % 3 := Int.tmod_eq_emod_of_nonneg (by omega)
              have m2 : (0 ≤ (j : Int) % 3) = True := eq_true (by omega)
              have m3 : ((j : Int) % 3 < 3) = True := eq_true (by omega)
              have m4 : ((j : Int) % 3).toNat = j % 3 := by omega
              go_wp2
              refine start_ (n := 20) (S := fun w' => w'.cell? ⟨gs, j % 3, none⟩ = some (Value.int .i64 1) ∧ w'.cell? (ad.add j) = some (Value.int .i64 x)) (ds := []) #[false, false, false, false, false, false, false, false, false, false, false, false, false, false, false, false, false, false, false, false] (by kernel_rfl) rfl rfl ⟨by have := Sz.at_ (by repeat (first | (with_reducible first | exact HSZ.out | apply Sz.alloc | apply Sz.drewN | apply Sz.drew))) j; rw [hsj] at this; exact this, (Below.cell (B := w.heap.size) (w := w) (by repeat (first | (with_reducible first | exact HB.out | apply below_alloc | apply pw_below_drewN | apply below_drew1) | exact HB.out)) (World.block_lt_of_cell? w _ HX0.out)).trans HX0.out⟩ (fun hHeld => ?_)
              refine with_tabW r9_21.tab r9_21.bits (fun HT_ HW_ => ?_)
              refine pure_ (i := 0) (N := some 83) (v := ?_) (a' := ?_) #[true, false, false, false, false, false, false, false, false, false, false, false, false, false, false, false, false, false, false, false] rfl rfl (any_of HT_.out (by kernel_rfl)) (fun _ _ _ h => h) (Or.inl ⟨by rfl, ?_⟩) ?_ ?_
              rotate_left
              · intro w'
                go_simp
                with_reducible rfl
              rotate_left
              · simp only [Act.put, List.setIfInBounds_toArray, List.set_cons_zero, List.set_cons_succ, i64_w, i32_w]
                rfl
              refine pure_ (i := 1) (N := some 84) (v := ?_) (a' := ?_) #[true, true, false, false, false, false, false, false, false, false, false, false, false, false, false, false, false, false, false, false] rfl rfl (any_of HT_.out (by kernel_rfl)) (fun _ _ _ h => h) (Or.inl ⟨by rfl, ?_⟩) ?_ ?_
              rotate_left
              · intro w'
                go_simp
                with_reducible rfl
              rotate_left
              · simp only [Act.put, List.setIfInBounds_toArray, List.set_cons_zero, List.set_cons_succ, i64_w, i32_w]
                rfl
              refine pure_ (i := 2) (N := some 85) (v := ?_) (a' := ?_) #[true, true, true, false, false, false, false, false, false, false, false, false, false, false, false, false, false, false, false, false] rfl rfl (any_of HT_.out (by kernel_rfl)) (fun _ _ _ h => h) (Or.inl ⟨by rfl, ?_⟩) ?_ ?_
              rotate_left
              · intro w'
                go_simp
                with_reducible rfl
              rotate_left
              · simp only [Act.put, List.setIfInBounds_toArray, List.set_cons_zero, List.set_cons_succ, i64_w, i32_w]
                rfl
              refine pure_ (i := 3) (N := some 86) (v := ?_) (a' := ?_) #[true, true, true, true, false, false, false, false, false, false, false, false, false, false, false, false, false, false, false, false] rfl rfl (any_of HT_.out (by kernel_rfl)) (fun _ _ _ h => h) (Or.inl ⟨by rfl, ?_⟩) ?_ ?_
              rotate_left
              · intro w'
                go_simp
                with_reducible rfl
              rotate_left
              · simp only [Act.put, List.setIfInBounds_toArray, List.set_cons_zero, List.set_cons_succ, i64_w, i32_w]
                rfl
              refine pure_ (i := 4) (N := some 87) (v := ?_) (a' := ?_) #[true, true, true, true, true, false, false, false, false, false, false, false, false, false, false, false, false, false, false, false] rfl rfl (any_of HT_.out (by kernel_rfl)) (fun _ _ _ h => h) (Or.inl ⟨by rfl, ?_⟩) ?_ ?_
              rotate_left
              · intro w'
                go_simp
                with_reducible rfl
              rotate_left
              · simp only [Act.put, List.setIfInBounds_toArray, List.set_cons_zero, List.set_cons_succ, i64_w, i32_w]
                rfl
              refine pure_ (i := 7) (N := some 90) (v := ?_) (a' := ?_) #[true, true, true, true, true, false, false, true, false, false, false, false, false, false, false, false, false, false, false, false] rfl rfl (any_of HT_.out (by kernel_rfl)) (fun _ _ _ h => h) (Or.inl ⟨by rfl, ?_⟩) ?_ ?_
              rotate_left
              · intro w'
                go_simp
                with_reducible rfl
              rotate_left
              · simp only [Act.put, List.setIfInBounds_toArray, List.set_cons_zero, List.set_cons_succ, i64_w, i32_w]
                rfl
              refine pure_ (i := 8) (N := some 91) (v := ?_) (a' := ?_) #[true, true, true, true, true, false, false, true, true, false, false, false, false, false, false, false, false, false, false, false] rfl rfl (any_of HT_.out (by kernel_rfl)) (fun _ _ _ h => h) (Or.inl ⟨by rfl, ?_⟩) ?_ ?_
              rotate_left
              · intro w'
                go_simp
                with_reducible rfl
              rotate_left
              · simp only [Act.put, List.setIfInBounds_toArray, List.set_cons_zero, List.set_cons_succ, i64_w, i32_w]
                rfl
              refine pure_ (i := 9) (N := some 92) (v := ?_) (a' := ?_) #[true, true, true, true, true, false, false, true, true, true, false, false, false, false, false, false, false, false, false, false] rfl rfl (any_of HT_.out (by kernel_rfl)) (fun _ _ _ h => h) (Or.inl ⟨by rfl, ?_⟩) ?_ ?_
              rotate_left
              · intro w'
                go_simp
                with_reducible rfl
              rotate_left
              · simp only [Act.put, List.setIfInBounds_toArray, List.set_cons_zero, List.set_cons_succ, i64_w, i32_w]
                rfl
              refine pure_ (i := 11) (N := some 94) (v := ?_) (a' := ?_) #[true, true, true, true, true, false, false, true, true, true, false, true, false, false, false, false, false, false, false, false] rfl rfl (any_of HT_.out (by kernel_rfl)) (fun _ _ _ h => h) (Or.inl ⟨by rfl, ?_⟩) ?_ ?_
              rotate_left
              · intro w'
                go_simp
                with_reducible rfl
              rotate_left
              · simp only [Act.put, List.setIfInBounds_toArray, List.set_cons_zero, List.set_cons_succ, i64_w, i32_w]
                rfl
              refine pure_ (i := 12) (N := some 95) (v := ?_) (a' := ?_) #[true, true, true, true, true, false, false, true, true, true, false, true, true, false, false, false, false, false, false, false] rfl rfl (any_of HT_.out (by kernel_rfl)) (fun _ _ _ h => h) (Or.inl ⟨by rfl, ?_⟩) ?_ ?_
              rotate_left
              · intro w'
                go_simp
                with_reducible rfl
              rotate_left
              · simp only [Act.put, List.setIfInBounds_toArray, List.set_cons_zero, List.set_cons_succ, i64_w, i32_w]
                rfl
              refine pure_ (i := 13) (N := some 96) (v := ?_) (a' := ?_) #[true, true, true, true, true, false, false, true, true, true, false, true, true, true, false, false, false, false, false, false] rfl rfl (any_of HT_.out (by kernel_rfl)) (fun _ _ _ h => h) (Or.inl ⟨by rfl, ?_⟩) ?_ ?_
              rotate_left
              · intro w'
                go_simp
                with_reducible rfl
              rotate_left
              · simp only [Act.put, List.setIfInBounds_toArray, List.set_cons_zero, List.set_cons_succ, i64_w, i32_w]
                rfl
              refine pure_ (i := 14) (N := some 97) (v := ?_) (a' := ?_) #[true, true, true, true, true, false, false, true, true, true, false, true, true, true, true, false, false, false, false, false] rfl rfl (any_of HT_.out (by kernel_rfl)) (fun _ _ _ h => h) (Or.inl ⟨by rfl, ?_⟩) ?_ ?_
              rotate_left
              · intro w'
                go_simp
                with_reducible rfl
              rotate_left
              · simp only [Act.put, List.setIfInBounds_toArray, List.set_cons_zero, List.set_cons_succ, i64_w, i32_w]
                rfl
              refine take_ (i := 5) (N := some 88) (v := ?_) (a' := ?_) #[true, true, true, true, true, true, false, true, true, true, false, true, true, true, true, false, false, false, false, false] rfl rfl (take_ofW HT_.out HW_.out (by kernel_rfl)) (fun _ _ _ h => h) (Or.inl ⟨by rfl, ?_⟩) hHeld ?_ ?_
              rotate_left
              · rintro w' ⟨s0, s1⟩
                go_simp
                with_reducible rfl
              rotate_left
              · simp only [Act.put, List.setIfInBounds_toArray, List.set_cons_zero, List.set_cons_succ, i64_w, i32_w]
                rfl
              refine take_ (i := 10) (N := some 93) (v := ?_) (a' := ?_) #[true, true, true, true, true, true, false, true, true, true, true, true, true, true, true, false, false, false, false, false] rfl rfl (take_ofW HT_.out HW_.out (by kernel_rfl)) (fun _ _ _ h => h) (Or.inl ⟨by rfl, ?_⟩) hHeld ?_ ?_
              rotate_left
              · rintro w' ⟨s0, s1⟩
                go_simp
                with_reducible rfl
              rotate_left
              · simp only [Act.put, List.setIfInBounds_toArray, List.set_cons_zero, List.set_cons_succ, i64_w, i32_w]
                rfl
              refine take_ (i := 15) (N := some 98) (v := ?_) (a' := ?_) #[true, true, true, true, true, true, false, true, true, true, true, true, true, true, true, true, false, false, false, false] rfl rfl (take_ofW HT_.out HW_.out (by kernel_rfl)) (fun _ _ _ h => h) (Or.inl ⟨by rfl, ?_⟩) hHeld ?_ ?_
              rotate_left
              · rintro w' ⟨s0, s1⟩
                go_simp
                with_reducible rfl
              rotate_left
              · simp only [Act.put, List.setIfInBounds_toArray, List.set_cons_zero, List.set_cons_succ, i64_w, i32_w]
                rfl
              refine pure_ (i := 16) (N := some 99) (v := ?_) (a' := ?_) #[true, true, true, true, true, true, false, true, true, true, true, true, true, true, true, true, true, false, false, false] rfl rfl (any_of HT_.out (by kernel_rfl)) (fun _ _ _ h => h) (Or.inl ⟨by rfl, ?_⟩) ?_ ?_
              rotate_left
              · intro w'
                go_simp
                with_reducible rfl
              rotate_left
              · simp only [Act.put, List.setIfInBounds_toArray, List.set_cons_zero, List.set_cons_succ, i64_w, i32_w]
                rfl
              refine pure_ (i := 17) (N := some 100) (v := ?_) (a' := ?_) #[true, true, true, true, true, true, false, true, true, true, true, true, true, true, true, true, true, true, false, false] rfl rfl (any_of HT_.out (by kernel_rfl)) (fun _ _ _ h => h) (Or.inl ⟨by rfl, ?_⟩) ?_ ?_
              rotate_left
              · intro w'
                go_simp
                with_reducible rfl
              rotate_left
              · simp only [Act.put, List.setIfInBounds_toArray, List.set_cons_zero, List.set_cons_succ, i64_w, i32_w]
                rfl
              refine one_ (i := 6) (N := some 89) #[true, true, true, true, true, true, true, true, true, true, true, true, true, true, true, true, true, true, false, false] rfl rfl (one_of HT_.out (by kernel_rfl)) (by decide) (fun K hK => ?_)
              refine goes_ Try.func42 (by kernel_rfl) rfl #[(.pointer (some ⟨gr, 0, none⟩)), (.int .i64 1)] (by rfl) rfl rfl (by (try simp only [List.map_toArray, List.map_cons, List.map_nil]); first | done | rfl) ?_
              with_reducible refine (onum_c gr (encN l0 j (m + 1) ++ tl) 0 1 y (encN l0 (j + 1) m ++ tl, 0) _ ?s0 ?s1 HNUM.out).mono ?_
              (case s0 => exact (by repeat (first | (with_reducible first | exact HRR.out | apply Rb.alloc | apply Rb.drewN | apply Rb.drew))))
              (case s1 => exact (encN_bytes l0 (m + 1) j).app HTL.out)
              rintro e w_42 ⟨rfl, hr, hk⟩
              refine ⟨_, rfl, ?_⟩
              have HRR2 := Aside0.mk hr
              have HSZ2 := Aside0.mk (Sz.kp (by repeat (first | (with_reducible first | exact HSZ.out | apply Sz.alloc | apply Sz.drewN | apply Sz.drew))) hk HNE.out)
              have n_ := Aside0.mk (below_kp (by repeat (first | (with_reducible first | exact HB.out | apply below_alloc | apply pw_below_drewN | apply below_drew1) | exact HB.out)) hk HGR.out (below_size (by repeat (first | (with_reducible first | exact HB.out | apply below_alloc | apply pw_below_drewN | apply below_drew1) | exact HB.out))))
              have HB := n_
              clear n_ hk hr
              refine hK.out _ _ ⟨by have := Sz.at_ HSZ2.out j; rw [hsj] at this; exact this, (Below.cell (B := w.heap.size) (w := w) HB.out (World.block_lt_of_cell? w _ HX0.out)).trans HX0.out⟩ (fun hHeld => ?_)
              clear hK K
              refine norm_ (a' := ?_) ?_ ?_
              rotate_left
              · show Act.put _ (some 89) _ = _
                simp only [Act.put, List.setIfInBounds_toArray, List.set_cons_zero, List.set_cons_succ, i64_w, i32_w]
                rfl
              refine one_ (i := 18) (N := some 101) #[true, true, true, true, true, true, true, true, true, true, true, true, true, true, true, true, true, true, true, false] rfl rfl (one_of HT_.out (by kernel_rfl)) (by decide) (fun K hK => ?_)
              refine goes_ Try.func32 (by kernel_rfl) rfl #[(.int .i64 x), (.int .i64 256)] (by rfl) rfl rfl (by (try simp only [List.map_toArray, List.map_cons, List.map_nil]); first | done | rfl) ?_
              with_reducible refine (bring_c x 256 _ HXW.out (by decide) (by decide)).mono ?_
              rintro e w_32 ⟨rfl, rfl⟩
              refine ⟨_, rfl, ?_⟩
              rw [HBR.out]
              refine hK.out _ _ ⟨by have := Sz.at_ (by repeat (first | (with_reducible first | exact HSZ2.out | apply Sz.alloc | apply Sz.drewN | apply Sz.drew))) j; rw [hsj] at this; exact this, (Below.cell (B := w.heap.size) (w := w) (by repeat (first | (with_reducible first | exact HB.out | apply below_alloc | apply pw_below_drewN | apply below_drew1) | exact HB.out)) (World.block_lt_of_cell? w _ HX0.out)).trans HX0.out⟩ (fun hHeld => ?_)
              clear hK K
              refine norm_ (a' := ?_) ?_ ?_
              rotate_left
              · show Act.put _ (some 101) _ = _
                simp only [Act.put, List.setIfInBounds_toArray, List.set_cons_zero, List.set_cons_succ, i64_w, i32_w]
                rfl
              refine pure_ (i := 19) (N := some 102) (v := ?_) (a' := ?_) #[true, true, true, true, true, true, true, true, true, true, true, true, true, true, true, true, true, true, true, true] rfl rfl (any_of HT_.out (by kernel_rfl)) (fun _ _ _ h => h) (Or.inl ⟨by rfl, ?_⟩) ?_ ?_
              rotate_left
              · intro w'
                go_simp
                with_reducible rfl
              rotate_left
              · simp only [Act.put, List.setIfInBounds_toArray, List.set_cons_zero, List.set_cons_succ, i64_w, i32_w]
                rfl
              refine done_ (done_of HT_.out (by kernel_rfl)) ?_

              go_wp2
              go_roundg m
              case measure => omega
              case rel => exact ⟨j + 1, by omega, by go_num, ⟨(by repeat (first | (with_reducible first | exact HRR2.out | apply Rb.alloc | apply Rb.drewN | apply Rb.drew)))⟩, ⟨(by repeat (first | (with_reducible first | exact HSZ2.out | apply Sz.alloc | apply Sz.drewN | apply Sz.drew)))⟩, ⟨(by repeat (first | (with_reducible first | exact HB.out | apply below_alloc | apply pw_below_drewN | apply below_drew1) | exact HB.out))⟩⟩

            · have hsz1 := HSZ.out.at_ j
              rw [hsj] at hsz1
              have HBR := Aside0.mk (show x % 65536 = y by rw [← HY0.out]; unfold brOf; rw [hsj, HXE.out]; rfl)
              have HNUM := Aside0.mk (show rNum (encN l0 j (m + 1) ++ tl) 0 2 = (y, encN l0 (j + 1) m ++ tl, 0) by have := rNum_enc l0 j m tl; rw [hsj, HY0.out] at this; exact this)
              have k8 : wrap64 (16 : Int) = 16 := by unfold wrap64; omega
              have k9 : wrap64 (65536 : Int) = 65536 := by unfold wrap64; omega
              have k10 : IntKind.i64.wrap (65536 : Int) = 65536 := by rw [i64_w]; exact k9
              have m1 : ((j : Int)).tmod 3 = (j : Int) % 3 := Int.tmod_eq_emod_of_nonneg (by omega)
              have m2 : (0 ≤ (j : Int) % 3) = True := eq_true (by omega)
              have m3 : ((j : Int) % 3 < 3) = True := eq_true (by omega)
              have m4 : ((j : Int) % 3).toNat = j % 3 := by omega
              go_wp2
              refine start_ (n := 20) (S := fun w' => w'.cell? ⟨gs, j % 3, none⟩ = some (Value.int .i64 2) ∧ w'.cell? (ad.add j) = some (Value.int .i64 x)) (ds := []) #[false, false, false, false, false, false, false, false, false, false, false, false, false, false, false, false, false, false, false, false] (by kernel_rfl) rfl rfl ⟨by have := Sz.at_ (by repeat (first | (with_reducible first | exact HSZ.out | apply Sz.alloc | apply Sz.drewN | apply Sz.drew))) j; rw [hsj] at this; exact this, (Below.cell (B := w.heap.size) (w := w) (by repeat (first | (with_reducible first | exact HB.out | apply below_alloc | apply pw_below_drewN | apply below_drew1) | exact HB.out)) (World.block_lt_of_cell? w _ HX0.out)).trans HX0.out⟩ (fun hHeld => ?_)
              refine with_tabW r9_21.tab r9_21.bits (fun HT_ HW_ => ?_)
              refine pure_ (i := 0) (N := some 83) (v := ?_) (a' := ?_) #[true, false, false, false, false, false, false, false, false, false, false, false, false, false, false, false, false, false, false, false] rfl rfl (any_of HT_.out (by kernel_rfl)) (fun _ _ _ h => h) (Or.inl ⟨by rfl, ?_⟩) ?_ ?_
              rotate_left
              · intro w'
                go_simp
                with_reducible rfl
              rotate_left
              · simp only [Act.put, List.setIfInBounds_toArray, List.set_cons_zero, List.set_cons_succ, i64_w, i32_w]
                rfl
              refine pure_ (i := 1) (N := some 84) (v := ?_) (a' := ?_) #[true, true, false, false, false, false, false, false, false, false, false, false, false, false, false, false, false, false, false, false] rfl rfl (any_of HT_.out (by kernel_rfl)) (fun _ _ _ h => h) (Or.inl ⟨by rfl, ?_⟩) ?_ ?_
              rotate_left
              · intro w'
                go_simp
                with_reducible rfl
              rotate_left
              · simp only [Act.put, List.setIfInBounds_toArray, List.set_cons_zero, List.set_cons_succ, i64_w, i32_w]
                rfl
              refine pure_ (i := 2) (N := some 85) (v := ?_) (a' := ?_) #[true, true, true, false, false, false, false, false, false, false, false, false, false, false, false, false, false, false, false, false] rfl rfl (any_of HT_.out (by kernel_rfl)) (fun _ _ _ h => h) (Or.inl ⟨by rfl, ?_⟩) ?_ ?_
              rotate_left
              · intro w'
                go_simp
                with_reducible rfl
              rotate_left
              · simp only [Act.put, List.setIfInBounds_toArray, List.set_cons_zero, List.set_cons_succ, i64_w, i32_w]
                rfl
              refine pure_ (i := 3) (N := some 86) (v := ?_) (a' := ?_) #[true, true, true, true, false, false, false, false, false, false, false, false, false, false, false, false, false, false, false, false] rfl rfl (any_of HT_.out (by kernel_rfl)) (fun _ _ _ h => h) (Or.inl ⟨by rfl, ?_⟩) ?_ ?_
              rotate_left
              · intro w'
                go_simp
                with_reducible rfl
              rotate_left
              · simp only [Act.put, List.setIfInBounds_toArray, List.set_cons_zero, List.set_cons_succ, i64_w, i32_w]
                rfl
              refine pure_ (i := 4) (N := some 87) (v := ?_) (a' := ?_) #[true, true, true, true, true, false, false, false, false, false, false, false, false, false, false, false, false, false, false, false] rfl rfl (any_of HT_.out (by kernel_rfl)) (fun _ _ _ h => h) (Or.inl ⟨by rfl, ?_⟩) ?_ ?_
              rotate_left
              · intro w'
                go_simp
                with_reducible rfl
              rotate_left
              · simp only [Act.put, List.setIfInBounds_toArray, List.set_cons_zero, List.set_cons_succ, i64_w, i32_w]
                rfl
              refine pure_ (i := 7) (N := some 90) (v := ?_) (a' := ?_) #[true, true, true, true, true, false, false, true, false, false, false, false, false, false, false, false, false, false, false, false] rfl rfl (any_of HT_.out (by kernel_rfl)) (fun _ _ _ h => h) (Or.inl ⟨by rfl, ?_⟩) ?_ ?_
              rotate_left
              · intro w'
                go_simp
                with_reducible rfl
              rotate_left
              · simp only [Act.put, List.setIfInBounds_toArray, List.set_cons_zero, List.set_cons_succ, i64_w, i32_w]
                rfl
              refine pure_ (i := 8) (N := some 91) (v := ?_) (a' := ?_) #[true, true, true, true, true, false, false, true, true, false, false, false, false, false, false, false, false, false, false, false] rfl rfl (any_of HT_.out (by kernel_rfl)) (fun _ _ _ h => h) (Or.inl ⟨by rfl, ?_⟩) ?_ ?_
              rotate_left
              · intro w'
                go_simp
                with_reducible rfl
              rotate_left
              · simp only [Act.put, List.setIfInBounds_toArray, List.set_cons_zero, List.set_cons_succ, i64_w, i32_w]
                rfl
              refine pure_ (i := 9) (N := some 92) (v := ?_) (a' := ?_) #[true, true, true, true, true, false, false, true, true, true, false, false, false, false, false, false, false, false, false, false] rfl rfl (any_of HT_.out (by kernel_rfl)) (fun _ _ _ h => h) (Or.inl ⟨by rfl, ?_⟩) ?_ ?_
              rotate_left
              · intro w'
                go_simp
                with_reducible rfl
              rotate_left
              · simp only [Act.put, List.setIfInBounds_toArray, List.set_cons_zero, List.set_cons_succ, i64_w, i32_w]
                rfl
              refine pure_ (i := 11) (N := some 94) (v := ?_) (a' := ?_) #[true, true, true, true, true, false, false, true, true, true, false, true, false, false, false, false, false, false, false, false] rfl rfl (any_of HT_.out (by kernel_rfl)) (fun _ _ _ h => h) (Or.inl ⟨by rfl, ?_⟩) ?_ ?_
              rotate_left
              · intro w'
                go_simp
                with_reducible rfl
              rotate_left
              · simp only [Act.put, List.setIfInBounds_toArray, List.set_cons_zero, List.set_cons_succ, i64_w, i32_w]
                rfl
              refine pure_ (i := 12) (N := some 95) (v := ?_) (a' := ?_) #[true, true, true, true, true, false, false, true, true, true, false, true, true, false, false, false, false, false, false, false] rfl rfl (any_of HT_.out (by kernel_rfl)) (fun _ _ _ h => h) (Or.inl ⟨by rfl, ?_⟩) ?_ ?_
              rotate_left
              · intro w'
                go_simp
                with_reducible rfl
              rotate_left
              · simp only [Act.put, List.setIfInBounds_toArray, List.set_cons_zero, List.set_cons_succ, i64_w, i32_w]
                rfl
              refine pure_ (i := 13) (N := some 96) (v := ?_) (a' := ?_) #[true, true, true, true, true, false, false, true, true, true, false, true, true, true, false, false, false, false, false, false] rfl rfl (any_of HT_.out (by kernel_rfl)) (fun _ _ _ h => h) (Or.inl ⟨by rfl, ?_⟩) ?_ ?_
              rotate_left
              · intro w'
                go_simp
                with_reducible rfl
              rotate_left
              · simp only [Act.put, List.setIfInBounds_toArray, List.set_cons_zero, List.set_cons_succ, i64_w, i32_w]
                rfl
              refine pure_ (i := 14) (N := some 97) (v := ?_) (a' := ?_) #[true, true, true, true, true, false, false, true, true, true, false, true, true, true, true, false, false, false, false, false] rfl rfl (any_of HT_.out (by kernel_rfl)) (fun _ _ _ h => h) (Or.inl ⟨by rfl, ?_⟩) ?_ ?_
              rotate_left
              · intro w'
                go_simp
                with_reducible rfl
              rotate_left
              · simp only [Act.put, List.setIfInBounds_toArray, List.set_cons_zero, List.set_cons_succ, i64_w, i32_w]
                rfl
              refine take_ (i := 5) (N := some 88) (v := ?_) (a' := ?_) #[true, true, true, true, true, true, false, true, true, true, false, true, true, true, true, false, false, false, false, false] rfl rfl (take_ofW HT_.out HW_.out (by kernel_rfl)) (fun _ _ _ h => h) (Or.inl ⟨by rfl, ?_⟩) hHeld ?_ ?_
              rotate_left
              · rintro w' ⟨s0, s1⟩
                go_simp
                with_reducible rfl
              rotate_left
              · simp only [Act.put, List.setIfInBounds_toArray, List.set_cons_zero, List.set_cons_succ, i64_w, i32_w]
                rfl
              refine take_ (i := 10) (N := some 93) (v := ?_) (a' := ?_) #[true, true, true, true, true, true, false, true, true, true, true, true, true, true, true, false, false, false, false, false] rfl rfl (take_ofW HT_.out HW_.out (by kernel_rfl)) (fun _ _ _ h => h) (Or.inl ⟨by rfl, ?_⟩) hHeld ?_ ?_
              rotate_left
              · rintro w' ⟨s0, s1⟩
                go_simp
                with_reducible rfl
              rotate_left
              · simp only [Act.put, List.setIfInBounds_toArray, List.set_cons_zero, List.set_cons_succ, i64_w, i32_w]
                rfl
              refine take_ (i := 15) (N := some 98) (v := ?_) (a' := ?_) #[true, true, true, true, true, true, false, true, true, true, true, true, true, true, true, true, false, false, false, false] rfl rfl (take_ofW HT_.out HW_.out (by kernel_rfl)) (fun _ _ _ h => h) (Or.inl ⟨by rfl, ?_⟩) hHeld ?_ ?_
              rotate_left
              · rintro w' ⟨s0, s1⟩
                go_simp
                with_reducible rfl
              rotate_left
              · simp only [Act.put, List.setIfInBounds_toArray, List.set_cons_zero, List.set_cons_succ, i64_w, i32_w]
                rfl
              refine pure_ (i := 16) (N := some 99) (v := ?_) (a' := ?_) #[true, true, true, true, true, true, false, true, true, true, true, true, true, true, true, true, true, false, false, false] rfl rfl (any_of HT_.out (by kernel_rfl)) (fun _ _ _ h => h) (Or.inl ⟨by rfl, ?_⟩) ?_ ?_
              rotate_left
              · intro w'
                go_simp
                with_reducible rfl
              rotate_left
              · simp only [Act.put, List.setIfInBounds_toArray, List.set_cons_zero, List.set_cons_succ, i64_w, i32_w]
                rfl
              refine pure_ (i := 17) (N := some 100) (v := ?_) (a' := ?_) #[true, true, true, true, true, true, false, true, true, true, true, true, true, true, true, true, true, true, false, false] rfl rfl (any_of HT_.out (by kernel_rfl)) (fun _ _ _ h => h) (Or.inl ⟨by rfl, ?_⟩) ?_ ?_
              rotate_left
              · intro w'
                go_simp
                with_reducible rfl
              rotate_left
              · simp only [Act.put, List.setIfInBounds_toArray, List.set_cons_zero, List.set_cons_succ, i64_w, i32_w]
                rfl
              refine one_ (i := 6) (N := some 89) #[true, true, true, true, true, true, true, true, true, true, true, true, true, true, true, true, true, true, false, false] rfl rfl (one_of HT_.out (by kernel_rfl)) (by decide) (fun K hK => ?_)
              refine goes_ Try.func42 (by kernel_rfl) rfl #[(.pointer (some ⟨gr, 0, none⟩)), (.int .i64 2)] (by rfl) rfl rfl (by (try simp only [List.map_toArray, List.map_cons, List.map_nil]); first | done | rfl) ?_
              with_reducible refine (onum_c gr (encN l0 j (m + 1) ++ tl) 0 2 y (encN l0 (j + 1) m ++ tl, 0) _ ?s0 ?s1 HNUM.out).mono ?_
              (case s0 => exact (by repeat (first | (with_reducible first | exact HRR.out | apply Rb.alloc | apply Rb.drewN | apply Rb.drew))))
              (case s1 => exact (encN_bytes l0 (m + 1) j).app HTL.out)
              rintro e w_42 ⟨rfl, hr, hk⟩
              refine ⟨_, rfl, ?_⟩
              have HRR2 := Aside0.mk hr
              have HSZ2 := Aside0.mk (Sz.kp (by repeat (first | (with_reducible first | exact HSZ.out | apply Sz.alloc | apply Sz.drewN | apply Sz.drew))) hk HNE.out)
              have n_ := Aside0.mk (below_kp (by repeat (first | (with_reducible first | exact HB.out | apply below_alloc | apply pw_below_drewN | apply below_drew1) | exact HB.out)) hk HGR.out (below_size (by repeat (first | (with_reducible first | exact HB.out | apply below_alloc | apply pw_below_drewN | apply below_drew1) | exact HB.out))))
              have HB := n_
              clear n_ hk hr
              refine hK.out _ _ ⟨by have := Sz.at_ HSZ2.out j; rw [hsj] at this; exact this, (Below.cell (B := w.heap.size) (w := w) HB.out (World.block_lt_of_cell? w _ HX0.out)).trans HX0.out⟩ (fun hHeld => ?_)
              clear hK K
              refine norm_ (a' := ?_) ?_ ?_
              rotate_left
              · show Act.put _ (some 89) _ = _
                simp only [Act.put, List.setIfInBounds_toArray, List.set_cons_zero, List.set_cons_succ, i64_w, i32_w]
                rfl
              refine one_ (i := 18) (N := some 101) #[true, true, true, true, true, true, true, true, true, true, true, true, true, true, true, true, true, true, true, false] rfl rfl (one_of HT_.out (by kernel_rfl)) (by decide) (fun K hK => ?_)
              refine goes_ Try.func32 (by kernel_rfl) rfl #[(.int .i64 x), (.int .i64 65536)] (by rfl) rfl rfl (by (try simp only [List.map_toArray, List.map_cons, List.map_nil]); first | done | rfl) ?_
              with_reducible refine (bring_c x 65536 _ HXW.out (by decide) (by decide)).mono ?_
              rintro e w_32 ⟨rfl, rfl⟩
              refine ⟨_, rfl, ?_⟩
              rw [HBR.out]
              refine hK.out _ _ ⟨by have := Sz.at_ (by repeat (first | (with_reducible first | exact HSZ2.out | apply Sz.alloc | apply Sz.drewN | apply Sz.drew))) j; rw [hsj] at this; exact this, (Below.cell (B := w.heap.size) (w := w) (by repeat (first | (with_reducible first | exact HB.out | apply below_alloc | apply pw_below_drewN | apply below_drew1) | exact HB.out)) (World.block_lt_of_cell? w _ HX0.out)).trans HX0.out⟩ (fun hHeld => ?_)
              clear hK K
              refine norm_ (a' := ?_) ?_ ?_
              rotate_left
              · show Act.put _ (some 101) _ = _
                simp only [Act.put, List.setIfInBounds_toArray, List.set_cons_zero, List.set_cons_succ, i64_w, i32_w]
                rfl
              refine pure_ (i := 19) (N := some 102) (v := ?_) (a' := ?_) #[true, true, true, true, true, true, true, true, true, true, true, true, true, true, true, true, true, true, true, true] rfl rfl (any_of HT_.out (by kernel_rfl)) (fun _ _ _ h => h) (Or.inl ⟨by rfl, ?_⟩) ?_ ?_
              rotate_left
              · intro w'
                go_simp
                with_reducible rfl
              rotate_left
              · simp only [Act.put, List.setIfInBounds_toArray, List.set_cons_zero, List.set_cons_succ, i64_w, i32_w]
                rfl
              refine done_ (done_of HT_.out (by kernel_rfl)) ?_

              go_wp2
              go_roundg m
              case measure => omega
              case rel => exact ⟨j + 1, by omega, by go_num, ⟨(by repeat (first | (with_reducible first | exact HRR2.out | apply Rb.alloc | apply Rb.drewN | apply Rb.drew)))⟩, ⟨(by repeat (first | (with_reducible first | exact HSZ2.out | apply Sz.alloc | apply Sz.drewN | apply Sz.drew)))⟩, ⟨(by repeat (first | (with_reducible first | exact HB.out | apply below_alloc | apply pw_below_drewN | apply below_drew1) | exact HB.out))⟩⟩

            · have hsz1 := HSZ.out.at_ j
              rw [hsj] at hsz1
              have HBR := Aside0.mk (show x % 4294967296 = y by rw [← HY0.out]; unfold brOf; rw [hsj, HXE.out]; rfl)
              have HNUM := Aside0.mk (show rNum (encN l0 j (m + 1) ++ tl) 0 4 = (y, encN l0 (j + 1) m ++ tl, 0) by have := rNum_enc l0 j m tl; rw [hsj, HY0.out] at this; exact this)
              have k8 : wrap64 (32 : Int) = 32 := by unfold wrap64; omega
              have k9 : wrap64 (4294967296 : Int) = 4294967296 := by unfold wrap64; omega
              have k10 : IntKind.i64.wrap (4294967296 : Int) = 4294967296 := by rw [i64_w]; exact k9
              have m1 : ((j : Int)).tmod 3 = (j : Int) % 3 := Int.tmod_eq_emod_of_nonneg (by omega)
              have m2 : (0 ≤ (j : Int) % 3) = True := eq_true (by omega)
              have m3 : ((j : Int) % 3 < 3) = True := eq_true (by omega)
              have m4 : ((j : Int) % 3).toNat = j % 3 := by omega
              go_wp2
              refine start_ (n := 20) (S := fun w' => w'.cell? ⟨gs, j % 3, none⟩ = some (Value.int .i64 4) ∧ w'.cell? (ad.add j) = some (Value.int .i64 x)) (ds := []) #[false, false, false, false, false, false, false, false, false, false, false, false, false, false, false, false, false, false, false, false] (by kernel_rfl) rfl rfl ⟨by have := Sz.at_ (by repeat (first | (with_reducible first | exact HSZ.out | apply Sz.alloc | apply Sz.drewN | apply Sz.drew))) j; rw [hsj] at this; exact this, (Below.cell (B := w.heap.size) (w := w) (by repeat (first | (with_reducible first | exact HB.out | apply below_alloc | apply pw_below_drewN | apply below_drew1) | exact HB.out)) (World.block_lt_of_cell? w _ HX0.out)).trans HX0.out⟩ (fun hHeld => ?_)
              refine with_tabW r9_21.tab r9_21.bits (fun HT_ HW_ => ?_)
              refine pure_ (i := 0) (N := some 83) (v := ?_) (a' := ?_) #[true, false, false, false, false, false, false, false, false, false, false, false, false, false, false, false, false, false, false, false] rfl rfl (any_of HT_.out (by kernel_rfl)) (fun _ _ _ h => h) (Or.inl ⟨by rfl, ?_⟩) ?_ ?_
              rotate_left
              · intro w'
                go_simp
                with_reducible rfl
              rotate_left
              · simp only [Act.put, List.setIfInBounds_toArray, List.set_cons_zero, List.set_cons_succ, i64_w, i32_w]
                rfl
              refine pure_ (i := 1) (N := some 84) (v := ?_) (a' := ?_) #[true, true, false, false, false, false, false, false, false, false, false, false, false, false, false, false, false, false, false, false] rfl rfl (any_of HT_.out (by kernel_rfl)) (fun _ _ _ h => h) (Or.inl ⟨by rfl, ?_⟩) ?_ ?_
              rotate_left
              · intro w'
                go_simp
                with_reducible rfl
              rotate_left
              · simp only [Act.put, List.setIfInBounds_toArray, List.set_cons_zero, List.set_cons_succ, i64_w, i32_w]
                rfl
              refine pure_ (i := 2) (N := some 85) (v := ?_) (a' := ?_) #[true, true, true, false, false, false, false, false, false, false, false, false, false, false, false, false, false, false, false, false] rfl rfl (any_of HT_.out (by kernel_rfl)) (fun _ _ _ h => h) (Or.inl ⟨by rfl, ?_⟩) ?_ ?_
              rotate_left
              · intro w'
                go_simp
                with_reducible rfl
              rotate_left
              · simp only [Act.put, List.setIfInBounds_toArray, List.set_cons_zero, List.set_cons_succ, i64_w, i32_w]
                rfl
              refine pure_ (i := 3) (N := some 86) (v := ?_) (a' := ?_) #[true, true, true, true, false, false, false, false, false, false, false, false, false, false, false, false, false, false, false, false] rfl rfl (any_of HT_.out (by kernel_rfl)) (fun _ _ _ h => h) (Or.inl ⟨by rfl, ?_⟩) ?_ ?_
              rotate_left
              · intro w'
                go_simp
                with_reducible rfl
              rotate_left
              · simp only [Act.put, List.setIfInBounds_toArray, List.set_cons_zero, List.set_cons_succ, i64_w, i32_w]
                rfl
              refine pure_ (i := 4) (N := some 87) (v := ?_) (a' := ?_) #[true, true, true, true, true, false, false, false, false, false, false, false, false, false, false, false, false, false, false, false] rfl rfl (any_of HT_.out (by kernel_rfl)) (fun _ _ _ h => h) (Or.inl ⟨by rfl, ?_⟩) ?_ ?_
              rotate_left
              · intro w'
                go_simp
                with_reducible rfl
              rotate_left
              · simp only [Act.put, List.setIfInBounds_toArray, List.set_cons_zero, List.set_cons_succ, i64_w, i32_w]
                rfl
              refine pure_ (i := 7) (N := some 90) (v := ?_) (a' := ?_) #[true, true, true, true, true, false, false, true, false, false, false, false, false, false, false, false, false, false, false, false] rfl rfl (any_of HT_.out (by kernel_rfl)) (fun _ _ _ h => h) (Or.inl ⟨by rfl, ?_⟩) ?_ ?_
              rotate_left
              · intro w'
                go_simp
                with_reducible rfl
              rotate_left
              · simp only [Act.put, List.setIfInBounds_toArray, List.set_cons_zero, List.set_cons_succ, i64_w, i32_w]
                rfl
              refine pure_ (i := 8) (N := some 91) (v := ?_) (a' := ?_) #[true, true, true, true, true, false, false, true, true, false, false, false, false, false, false, false, false, false, false, false] rfl rfl (any_of HT_.out (by kernel_rfl)) (fun _ _ _ h => h) (Or.inl ⟨by rfl, ?_⟩) ?_ ?_
              rotate_left
              · intro w'
                go_simp
                with_reducible rfl
              rotate_left
              · simp only [Act.put, List.setIfInBounds_toArray, List.set_cons_zero, List.set_cons_succ, i64_w, i32_w]
                rfl
              refine pure_ (i := 9) (N := some 92) (v := ?_) (a' := ?_) #[true, true, true, true, true, false, false, true, true, true, false, false, false, false, false, false, false, false, false, false] rfl rfl (any_of HT_.out (by kernel_rfl)) (fun _ _ _ h => h) (Or.inl ⟨by rfl, ?_⟩) ?_ ?_
              rotate_left
              · intro w'
                go_simp
                with_reducible rfl
              rotate_left
              · simp only [Act.put, List.setIfInBounds_toArray, List.set_cons_zero, List.set_cons_succ, i64_w, i32_w]
                rfl
              refine pure_ (i := 11) (N := some 94) (v := ?_) (a' := ?_) #[true, true, true, true, true, false, false, true, true, true, false, true, false, false, false, false, false, false, false, false] rfl rfl (any_of HT_.out (by kernel_rfl)) (fun _ _ _ h => h) (Or.inl ⟨by rfl, ?_⟩) ?_ ?_
              rotate_left
              · intro w'
                go_simp
                with_reducible rfl
              rotate_left
              · simp only [Act.put, List.setIfInBounds_toArray, List.set_cons_zero, List.set_cons_succ, i64_w, i32_w]
                rfl
              refine pure_ (i := 12) (N := some 95) (v := ?_) (a' := ?_) #[true, true, true, true, true, false, false, true, true, true, false, true, true, false, false, false, false, false, false, false] rfl rfl (any_of HT_.out (by kernel_rfl)) (fun _ _ _ h => h) (Or.inl ⟨by rfl, ?_⟩) ?_ ?_
              rotate_left
              · intro w'
                go_simp
                with_reducible rfl
              rotate_left
              · simp only [Act.put, List.setIfInBounds_toArray, List.set_cons_zero, List.set_cons_succ, i64_w, i32_w]
                rfl
              refine pure_ (i := 13) (N := some 96) (v := ?_) (a' := ?_) #[true, true, true, true, true, false, false, true, true, true, false, true, true, true, false, false, false, false, false, false] rfl rfl (any_of HT_.out (by kernel_rfl)) (fun _ _ _ h => h) (Or.inl ⟨by rfl, ?_⟩) ?_ ?_
              rotate_left
              · intro w'
                go_simp
                with_reducible rfl
              rotate_left
              · simp only [Act.put, List.setIfInBounds_toArray, List.set_cons_zero, List.set_cons_succ, i64_w, i32_w]
                rfl
              refine pure_ (i := 14) (N := some 97) (v := ?_) (a' := ?_) #[true, true, true, true, true, false, false, true, true, true, false, true, true, true, true, false, false, false, false, false] rfl rfl (any_of HT_.out (by kernel_rfl)) (fun _ _ _ h => h) (Or.inl ⟨by rfl, ?_⟩) ?_ ?_
              rotate_left
              · intro w'
                go_simp
                with_reducible rfl
              rotate_left
              · simp only [Act.put, List.setIfInBounds_toArray, List.set_cons_zero, List.set_cons_succ, i64_w, i32_w]
                rfl
              refine take_ (i := 5) (N := some 88) (v := ?_) (a' := ?_) #[true, true, true, true, true, true, false, true, true, true, false, true, true, true, true, false, false, false, false, false] rfl rfl (take_ofW HT_.out HW_.out (by kernel_rfl)) (fun _ _ _ h => h) (Or.inl ⟨by rfl, ?_⟩) hHeld ?_ ?_
              rotate_left
              · rintro w' ⟨s0, s1⟩
                go_simp
                with_reducible rfl
              rotate_left
              · simp only [Act.put, List.setIfInBounds_toArray, List.set_cons_zero, List.set_cons_succ, i64_w, i32_w]
                rfl
              refine take_ (i := 10) (N := some 93) (v := ?_) (a' := ?_) #[true, true, true, true, true, true, false, true, true, true, true, true, true, true, true, false, false, false, false, false] rfl rfl (take_ofW HT_.out HW_.out (by kernel_rfl)) (fun _ _ _ h => h) (Or.inl ⟨by rfl, ?_⟩) hHeld ?_ ?_
              rotate_left
              · rintro w' ⟨s0, s1⟩
                go_simp
                with_reducible rfl
              rotate_left
              · simp only [Act.put, List.setIfInBounds_toArray, List.set_cons_zero, List.set_cons_succ, i64_w, i32_w]
                rfl
              refine take_ (i := 15) (N := some 98) (v := ?_) (a' := ?_) #[true, true, true, true, true, true, false, true, true, true, true, true, true, true, true, true, false, false, false, false] rfl rfl (take_ofW HT_.out HW_.out (by kernel_rfl)) (fun _ _ _ h => h) (Or.inl ⟨by rfl, ?_⟩) hHeld ?_ ?_
              rotate_left
              · rintro w' ⟨s0, s1⟩
                go_simp
                with_reducible rfl
              rotate_left
              · simp only [Act.put, List.setIfInBounds_toArray, List.set_cons_zero, List.set_cons_succ, i64_w, i32_w]
                rfl
              refine pure_ (i := 16) (N := some 99) (v := ?_) (a' := ?_) #[true, true, true, true, true, true, false, true, true, true, true, true, true, true, true, true, true, false, false, false] rfl rfl (any_of HT_.out (by kernel_rfl)) (fun _ _ _ h => h) (Or.inl ⟨by rfl, ?_⟩) ?_ ?_
              rotate_left
              · intro w'
                go_simp
                with_reducible rfl
              rotate_left
              · simp only [Act.put, List.setIfInBounds_toArray, List.set_cons_zero, List.set_cons_succ, i64_w, i32_w]
                rfl
              refine pure_ (i := 17) (N := some 100) (v := ?_) (a' := ?_) #[true, true, true, true, true, true, false, true, true, true, true, true, true, true, true, true, true, true, false, false] rfl rfl (any_of HT_.out (by kernel_rfl)) (fun _ _ _ h => h) (Or.inl ⟨by rfl, ?_⟩) ?_ ?_
              rotate_left
              · intro w'
                go_simp
                with_reducible rfl
              rotate_left
              · simp only [Act.put, List.setIfInBounds_toArray, List.set_cons_zero, List.set_cons_succ, i64_w, i32_w]
                rfl
              refine one_ (i := 6) (N := some 89) #[true, true, true, true, true, true, true, true, true, true, true, true, true, true, true, true, true, true, false, false] rfl rfl (one_of HT_.out (by kernel_rfl)) (by decide) (fun K hK => ?_)
              refine goes_ Try.func42 (by kernel_rfl) rfl #[(.pointer (some ⟨gr, 0, none⟩)), (.int .i64 4)] (by rfl) rfl rfl (by (try simp only [List.map_toArray, List.map_cons, List.map_nil]); first | done | rfl) ?_
              with_reducible refine (onum_c gr (encN l0 j (m + 1) ++ tl) 0 4 y (encN l0 (j + 1) m ++ tl, 0) _ ?s0 ?s1 HNUM.out).mono ?_
              (case s0 => exact (by repeat (first | (with_reducible first | exact HRR.out | apply Rb.alloc | apply Rb.drewN | apply Rb.drew))))
              (case s1 => exact (encN_bytes l0 (m + 1) j).app HTL.out)
              rintro e w_42 ⟨rfl, hr, hk⟩
              refine ⟨_, rfl, ?_⟩
              have HRR2 := Aside0.mk hr
              have HSZ2 := Aside0.mk (Sz.kp (by repeat (first | (with_reducible first | exact HSZ.out | apply Sz.alloc | apply Sz.drewN | apply Sz.drew))) hk HNE.out)
              have n_ := Aside0.mk (below_kp (by repeat (first | (with_reducible first | exact HB.out | apply below_alloc | apply pw_below_drewN | apply below_drew1) | exact HB.out)) hk HGR.out (below_size (by repeat (first | (with_reducible first | exact HB.out | apply below_alloc | apply pw_below_drewN | apply below_drew1) | exact HB.out))))
              have HB := n_
              clear n_ hk hr
              refine hK.out _ _ ⟨by have := Sz.at_ HSZ2.out j; rw [hsj] at this; exact this, (Below.cell (B := w.heap.size) (w := w) HB.out (World.block_lt_of_cell? w _ HX0.out)).trans HX0.out⟩ (fun hHeld => ?_)
              clear hK K
              refine norm_ (a' := ?_) ?_ ?_
              rotate_left
              · show Act.put _ (some 89) _ = _
                simp only [Act.put, List.setIfInBounds_toArray, List.set_cons_zero, List.set_cons_succ, i64_w, i32_w]
                rfl
              refine one_ (i := 18) (N := some 101) #[true, true, true, true, true, true, true, true, true, true, true, true, true, true, true, true, true, true, true, false] rfl rfl (one_of HT_.out (by kernel_rfl)) (by decide) (fun K hK => ?_)
              refine goes_ Try.func32 (by kernel_rfl) rfl #[(.int .i64 x), (.int .i64 4294967296)] (by rfl) rfl rfl (by (try simp only [List.map_toArray, List.map_cons, List.map_nil]); first | done | rfl) ?_
              with_reducible refine (bring_c x 4294967296 _ HXW.out (by decide) (by decide)).mono ?_
              rintro e w_32 ⟨rfl, rfl⟩
              refine ⟨_, rfl, ?_⟩
              rw [HBR.out]
              refine hK.out _ _ ⟨by have := Sz.at_ (by repeat (first | (with_reducible first | exact HSZ2.out | apply Sz.alloc | apply Sz.drewN | apply Sz.drew))) j; rw [hsj] at this; exact this, (Below.cell (B := w.heap.size) (w := w) (by repeat (first | (with_reducible first | exact HB.out | apply below_alloc | apply pw_below_drewN | apply below_drew1) | exact HB.out)) (World.block_lt_of_cell? w _ HX0.out)).trans HX0.out⟩ (fun hHeld => ?_)
              clear hK K
              refine norm_ (a' := ?_) ?_ ?_
              rotate_left
              · show Act.put _ (some 101) _ = _
                simp only [Act.put, List.setIfInBounds_toArray, List.set_cons_zero, List.set_cons_succ, i64_w, i32_w]
                rfl
              refine pure_ (i := 19) (N := some 102) (v := ?_) (a' := ?_) #[true, true, true, true, true, true, true, true, true, true, true, true, true, true, true, true, true, true, true, true] rfl rfl (any_of HT_.out (by kernel_rfl)) (fun _ _ _ h => h) (Or.inl ⟨by rfl, ?_⟩) ?_ ?_
              rotate_left
              · intro w'
                go_simp
                with_reducible rfl
              rotate_left
              · simp only [Act.put, List.setIfInBounds_toArray, List.set_cons_zero, List.set_cons_succ, i64_w, i32_w]
                rfl
              refine done_ (done_of HT_.out (by kernel_rfl)) ?_

              go_wp2
              go_roundg m
              case measure => omega
              case rel => exact ⟨j + 1, by omega, by go_num, ⟨(by repeat (first | (with_reducible first | exact HRR2.out | apply Rb.alloc | apply Rb.drewN | apply Rb.drew)))⟩, ⟨(by repeat (first | (with_reducible first | exact HSZ2.out | apply Sz.alloc | apply Sz.drewN | apply Sz.drew)))⟩, ⟨(by repeat (first | (with_reducible first | exact HB.out | apply below_alloc | apply pw_below_drewN | apply below_drew1) | exact HB.out))⟩⟩

          · obtain rfl : j = i := by omega
            have HRT := Aside0.mk (show Rb wr 60 gr tl 0 by have h := HRR.out; have e : gk = 0 := (by omega); rw [e] at h; exact h)
            clear HRR hj
            have z20 : decide ((j : Int) < 20) = false := decide_eq_false (by have := HNN.out; omega)
            have z21 : decide (j < 20) = false := decide_eq_false (by have := HNN.out; omega)
            have HLT := Aside0.mk y21
            by_cases hz : 0 < lt.length
            · have HEND := Aside0.mk (show rEnd lt 0 = 4 by unfold rEnd; rw [if_pos ⟨rfl, hz⟩])
              have w1 : ((lt.length : Int) == 0) = false := beq_eq_false_iff_ne.mpr (by omega)
              have w2 : (lt.length == 0) = false := beq_eq_false_iff_ne.mpr (by omega)
              clear hz
              go_wp2_with (first | (go_at_call 44; (with_reducible refine (otext_c gr tl 0 ls lt 0 _ ?s0 ?s1 ?s2 HTX.out).mono ?_); (case s0 => exact HRT.out); (case s1 => exact HTL.out); (case s2 => exact HTLL.out); rintro e wX ⟨vx, rfl, ho, hr, hk⟩; have HX1 := Aside0.mk ho; have HRX := Aside0.mk hr; have n_ := Aside0.mk (below_kp HB.out hk HGR.out HB.out.size); have HB := n_; clear n_ ho hr hk) | (go_at_call 26; (with_reducible refine (eqb_v _ _ ls ls _ ?s0 ?s1 rfl).mono ?_); (case s0 => exact HX1.out.bv); (case s1 => exact H1.out.mv HB.out); rintro e w_26 ⟨rfl, rfl⟩) | (go_at_call 46; (with_reducible refine (oleft_c gr lt 0 _ ?s0).mono ?_); (case s0 => exact HRX.out); rintro e w1 ⟨rfl, rfl⟩) | (go_at_call 48; (with_reducible refine (oerr_c gr lt 0 _ ?s0).mono ?_); (case s0 => exact HRX.out); rintro e w1 ⟨rfl, rfl⟩) | (go_at_call 50; (with_reducible refine (oend_c gr lt 0 4 _ ?s0 HEND.out).mono ?_); (case s0 => exact HRX.out); rintro e w1 ⟨rfl, rfl⟩))
              go_ret
              exact ⟨by simp, HB.out⟩
            · have HEND := Aside0.mk (show rEnd lt 0 = 0 by unfold rEnd; rw [if_neg (fun h => hz h.2)])
              have w1 : ((lt.length : Int) == 0) = true := beq_iff_eq.mpr (by omega)
              have w2 : (lt.length == 0) = true := beq_iff_eq.mpr (by omega)
              clear hz
              go_wp2_with (first | (go_at_call 44; (with_reducible refine (otext_c gr tl 0 ls lt 0 _ ?s0 ?s1 ?s2 HTX.out).mono ?_); (case s0 => exact HRT.out); (case s1 => exact HTL.out); (case s2 => exact HTLL.out); rintro e wX ⟨vx, rfl, ho, hr, hk⟩; have HX1 := Aside0.mk ho; have HRX := Aside0.mk hr; have n_ := Aside0.mk (below_kp HB.out hk HGR.out HB.out.size); have HB := n_; clear n_ ho hr hk) | (go_at_call 26; (with_reducible refine (eqb_v _ _ ls ls _ ?s0 ?s1 rfl).mono ?_); (case s0 => exact HX1.out.bv); (case s1 => exact H1.out.mv HB.out); rintro e w_26 ⟨rfl, rfl⟩) | (go_at_call 46; (with_reducible refine (oleft_c gr lt 0 _ ?s0).mono ?_); (case s0 => exact HRX.out); rintro e w1 ⟨rfl, rfl⟩) | (go_at_call 48; (with_reducible refine (oerr_c gr lt 0 _ ?s0).mono ?_); (case s0 => exact HRX.out); rintro e w1 ⟨rfl, rfl⟩) | (go_at_call 50; (with_reducible refine (oend_c gr lt 0 0 _ ?s0 HEND.out).mono ?_); (case s0 => exact HRX.out); rintro e w1 ⟨rfl, rfl⟩))
              go_ret
              exact ⟨by simp, HB.out⟩

theorem octetBack_walk {w : World} (v0 : Value) (l0 : List Int) (h0 : IV w v0 l0) (h0w : ∀ n ∈ l0, (Lit.int .i64 n).wf = true) (hy0 : l0.length * 8 ≤ 140737488351232) (v1 : Value) (l1 : List Int) (h1 : BV w v1 l1) (hb1 : bytesP l1) (hy1 : l1.length * 1 ≤ 140737488351232) (v2 : Value) (l2 : List Int) (h2 : BV w v2 l2) (hb2 : bytesP l2) (hy2 : l2.length * 1 ≤ 140737488351232) :
    Calls Try.prog 9 #[v0, v1, v2] w fun e w' => e = .returned (.bool true) ∧ Below w.heap.size w w' := by
  by_cases h : l1.length ≤ 400
  · exact octetBack_whole v0 l0 v1 l1 v2 l2 h0 h0w h1 hb1 h2 hb2 hy2 h
  · exact octetBack_cut v0 l0 v1 l1 v2 l2 h0 h0w h1 hb1 h2 hb2 hy2 (by omega)

end Go.Proofs.Ytkgjmajabgpadaa
