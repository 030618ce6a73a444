import Derived.Test.YtkgjmajabgpadaaC1
import Derived.Test.YtkgjmajabgpadaaWTab
namespace Go.Proofs.Ytkgjmajabgpadaa
set_option linter.unusedVariables false
set_option linter.unusedSimpArgs false
open Go.RowKit Go.Proofs.YtkgjmajabgpadaaW.PrintWords Go.Proofs.YtkgjmajabgpadaaW.PrintLast Go.Proofs.YtkgjmajabgpadaaW.PrintMore
def r30_6.T : Bool × List (List Nat × List Nat) := (true, [([], []), ([], []), ([0, 1], [0, 1]), ([2], [2]), ([3, 3], [3]), ([], []), ([], []), ([5, 6], [5, 6]), ([7, 4], [7]), ([4, 8], [4, 8])])
def r30_6.B : List Nat := [0, 0, 3, 7, 15, 0, 0, 96, 255, 511]
theorem r30_6.tab : rtab .any (opsOf Try.f30 6) = r30_6.T := by kernel_rfl
theorem r30_6.bits : waitsOk r30_6.T.2 r30_6.B = true := by kernel_rfl
def r30_8.T : Bool × List (List Nat × List Nat) := (true, [([], []), ([0], [0]), ([1], [1]), ([2], [2]), ([], []), ([], []), ([4, 5], [4, 5]), ([6], [6]), ([3, 7, 0, 1, 2, 3], [3]), ([7, 8, 0, 1, 2, 3, 4, 5, 6, 7, 8], [7]), ([9, 0, 1, 2, 3, 4, 5, 6, 7, 8, 9], [])])
def r30_8.B : List Nat := [0, 1, 3, 7, 0, 0, 48, 112, 255, 511, 1023]
theorem r30_8.tab : rtab .any (opsOf Try.f30 8) = r30_8.T := by kernel_rfl
theorem r30_8.bits : waitsOk r30_8.T.2 r30_8.B = true := by kernel_rfl
theorem mid_run (A : Option Addr) (l : List Int) (c n : Nat) (hn : l.length = n + 2) (h1 : 1 ≤ n) (hc : l.length ≤ c) :
    ∃ A' : Option Addr, (∀ W : World, (Instr.slice 22 (.slice A (n + 2) c) (some (.int .i64 1)) (some (.int .i64 (n : Int))) none).run Try.prog W = .ok (.slice A' (n - 1) (c - 1)) W) ∧ ∀ w : World, BC w A l → BC w A' ((l.take n).drop 1) := by
  obtain ⟨i0, hi, hzz⟩ := Option.map_eq_some_iff.1 info5
  simp only [Prod.mk.injEq] at hzz
  obtain ⟨A', k1, k2, k3⟩ := print_mid_of (P := Try.prog) (Value.int .u8) (0 : Int) 22 5 .i64 .i64 Try.underlying22 hi hzz.2.1 A c l 1 (n : Int) (by omega) (by omega) (by omega) hc
  have e : ((l.take (n : Int).toNat).drop (1 : Int).toNat) = (l.take n).drop 1 := rfl
  have hl : ((l.take n).drop 1).length = n - 1 := by rw [List.length_drop, List.length_take]; omega
  rw [e] at k1 k2 k3
  rw [hl, hn] at k1
  refine ⟨A', k1, fun w h => ?_⟩
  exact Kd.C_of_reads (enc := Value.int .u8) (d := (0 : Int)) (k2 w (Kd.reads_of_C (enc := Value.int .u8) (d := (0 : Int)) h))
set_option maxHeartbeats 8000000 in
set_option maxRecDepth 100000 in
theorem oopen_v (v0 : Value) (l0 : List Int) (r1 : Int) (r2 : List Int) (r3 : Int) (w : World) (h0 : BV w v0 l0) (hb : bytesP l0) (h : openS l0 = (r1, r2, r3)) :
    Calls Try.prog 30 #[v0] w fun e w' => ∃ v : Value, e = .returned (.tuple #[.int .i64 r1, v, .int .i64 r3]) ∧ BR w' w.heap.size v r2 ∧ Below w.heap.size w w' := by
  obtain ⟨A0, c0, rfl, hc0, hr0⟩ := h0
  have HR0 := Aside0.mk hr0
  have HC0 := Aside0.mk hc0
  have HBY := Aside0.mk hb
  have HP := Aside0.mk h
  clear hb h
  have HB := Aside0.mk (Below.refl w.heap.size w)
  by_cases hl : 512 < l0.length
  · have z : decide (512 < (l0.length : Int)) = true := decide_eq_true (by omega)
    have z1 : decide (512 < l0.length) = true := decide_eq_true (by omega)
    obtain ⟨rfl, h2⟩ := Prod.mk.inj ((openS_limit hl).symm.trans HP.out)
    obtain ⟨rfl, rfl⟩ := Prod.mk.inj h2
    clear hl hr0 hc0 h2
    go_enter Try.func30, Try.ntmps30
    go_wp2
    go_ret3
    exact ⟨_, rfl, BR.nil _ _, HB.out⟩
  by_cases hs : l0.length < 3
  · have z : decide (512 < (l0.length : Int)) = false := decide_eq_false (by omega)
    have z1 : decide (512 < l0.length) = false := decide_eq_false (by omega)
    have z2 : decide ((l0.length : Int) < 3) = true := decide_eq_true (by omega)
    have z3 : decide (l0.length < 3) = true := decide_eq_true (by omega)
    obtain ⟨rfl, h2⟩ := Prod.mk.inj ((openS_trunc hs).symm.trans HP.out)
    obtain ⟨rfl, rfl⟩ := Prod.mk.inj h2
    clear hl hs hr0 hc0 h2
    go_enter Try.func30, Try.ntmps30
    go_wp2
    go_ret3
    exact ⟨_, rfl, BR.nil _ _, HB.out⟩
  · obtain ⟨n, hn⟩ : ∃ n, l0.length = n + 2 := ⟨l0.length - 2, by omega⟩
    have HN := Aside0.mk hn
    have HL := Aside0.mk hl
    have HS := Aside0.mk hs
    obtain ⟨ad, e1, hx⟩ := hr0.atN 0 (by omega)
    subst e1
    obtain ⟨A', hf, hd⟩ := from_run (some ad) l0 c0 n (by omega) hc0
    have ht := to_run (some ad) l0 c0 n (by omega) hc0
    obtain ⟨A2, hmr, hmd⟩ := mid_run (some ad) l0 c0 n hn (by omega) hc0
    rw [hn] at hf ht ⊢
    rw [Nat.add_sub_cancel_left] at hf
    have HD := Aside0.mk hd
    have HMD := Aside0.mk hmd
    have HNL := Aside0.mk (show n ≤ 510 by omega)
    have hn1 : 1 ≤ n := by omega
    have hn2 : n ≤ 510 := by omega
    obtain ⟨X, hX⟩ : ∃ X : Int, X = ((be (l0.drop n) : Nat) : Int) := ⟨_, rfl⟩
    obtain ⟨S, hS⟩ : ∃ S : Int, S = ((sumS (l0.take n) : Nat) : Int) := ⟨_, rfl⟩
    have HXN : Aside0 (rNum (l0.drop n) 0 2 = (X, [], 0)) := ⟨by
      have hl2 : (l0.drop n).length = 2 := by rw [List.length_drop]; omega
      unfold rNum
      have e1 : (l0.drop n).take (2 : Int).toNat = l0.drop n := List.take_of_length_le (by rw [hl2]; decide)
      have e2 : (l0.drop n).drop (2 : Int).toNat = [] := List.drop_eq_nil_of_le (by rw [hl2]; decide)
      rw [if_neg (by simp), if_neg (by simp), if_neg (by rw [hl2]; decide), hX, e1, e2]⟩
    have HSS := Aside0.mk hS.symm
    by_cases hq : X = S
    · have z9 : (X != S) = false := bne_eq_false_iff_eq.mpr hq
      have hbe : be (l0.drop n) = sumS (l0.take n) := by have h := hq; rw [hX, hS] at h; exact Int.ofNat.inj h
      obtain ⟨hr1, h2⟩ := Prod.mk.inj ((openS_ok hn hl hs hbe).symm.trans HP.out)
      obtain ⟨rfl, rfl⟩ := Prod.mk.inj h2
      have HX0 := Aside0.mk (show w.cell? ad = some (Value.int .u8 r1) by rw [Addr.add_zero', hr1] at hx; exact hx)
      have hx0 := HBY.out.at_ 0
      rw [hr1] at hx0
      obtain ⟨hx1, hx2⟩ := hx0
      have HW1 : Aside0 (wrap64 r1 = r1) := ⟨by unfold wrap64; omega⟩
      have q2 : ((0 : Int) < (n : Int) + 2) = True := eq_true (by omega)
      clear hl hs hr0 hc0 h2 hn hX hS hbe hq hx hd hmd hr1
      go_enter Try.func30, Try.ntmps30
      go_wp2
      refine start_ (n := 10) (S := fun w' => True) (ds := []) #[false, false, false, false, false, false, false, false, false, false] (by kernel_rfl) rfl rfl trivial (fun hHeld => ?_)
      refine with_tabW r30_6.tab r30_6.bits (fun HT_ HW_ => ?_)
      refine pure_ (i := 0) (N := some 17) (v := ?_) (a' := ?_) #[true, false, false, false, false, false, false, false, false, false] rfl rfl (any_of HT_.out (by kernel_rfl)) (fun _ _ _ h => h) (Or.inl ⟨by rfl, ?_⟩) ?_ ?_
      rotate_left
      · intro w'
        go_simp
        with_reducible rfl
      rotate_left
      · simp only [Act.put, List.setIfInBounds_toArray, List.set_cons_zero, List.set_cons_succ, i64_w, i32_w]
        rfl
      refine pure_ (i := 1) (N := some 18) (v := ?_) (a' := ?_) #[true, true, false, false, false, false, false, false, false, false] rfl rfl (any_of HT_.out (by kernel_rfl)) (fun _ _ _ h => h) (Or.inl ⟨by rfl, ?_⟩) ?_ ?_
      rotate_left
      · intro w'
        go_simp
        with_reducible rfl
      rotate_left
      · simp only [Act.put, List.setIfInBounds_toArray, List.set_cons_zero, List.set_cons_succ, i64_w, i32_w]
        rfl
      refine pure_ (i := 2) (N := some 19) (v := ?_) (a' := ?_) #[true, true, true, false, false, false, false, false, false, false] rfl rfl (any_of HT_.out (by kernel_rfl)) (fun _ _ _ h => h) (Or.inl ⟨by rfl, ?_⟩) ?_ ?_
      rotate_left
      · intro w'
        go_simp
        with_reducible rfl
      rotate_left
      · simp only [Act.put, List.setIfInBounds_toArray, List.set_cons_zero, List.set_cons_succ, i64_w, i32_w]
        rfl
      refine pure_ (i := 5) (N := some 22) (v := ?_) (a' := ?_) #[true, true, true, false, false, true, false, false, false, false] rfl rfl (any_of HT_.out (by kernel_rfl)) (fun _ _ _ h => h) (Or.inl ⟨by rfl, ?_⟩) ?_ ?_
      rotate_left
      · intro w'
        go_simp
        with_reducible rfl
      rotate_left
      · simp only [Act.put, List.setIfInBounds_toArray, List.set_cons_zero, List.set_cons_succ, i64_w, i32_w]
        rfl
      refine pure_ (i := 6) (N := some 23) (v := ?_) (a' := ?_) #[true, true, true, false, false, true, true, false, false, false] rfl rfl (any_of HT_.out (by kernel_rfl)) (fun _ _ _ h => h) (Or.inl ⟨by rfl, ?_⟩) ?_ ?_
      rotate_left
      · intro w'
        go_simp
        with_reducible rfl
      rotate_left
      · simp only [Act.put, List.setIfInBounds_toArray, List.set_cons_zero, List.set_cons_succ, i64_w, i32_w]
        rfl
      refine pure_ (i := 7) (N := some 24) (v := ?_) (a' := ?_) #[true, true, true, false, false, true, true, true, false, false] rfl rfl (any_of HT_.out (by kernel_rfl)) (fun _ _ _ h => h) (Or.inl ⟨by rfl, ?_⟩) ?_ ?_
      rotate_left
      · intro w'
        go_simp
        with_reducible rfl
      rotate_left
      · simp only [Act.put, List.setIfInBounds_toArray, List.set_cons_zero, List.set_cons_succ, i64_w, i32_w]
        rfl
      refine one_ (i := 3) (N := some 20) #[true, true, true, true, false, true, true, true, false, false] rfl rfl (one_of HT_.out (by kernel_rfl)) (by decide) (fun K hK => ?_)
      refine goes_ Try.func40 (by kernel_rfl) rfl #[(.slice A' 2 (c0 - n))] (by rfl) rfl rfl (by (try simp only [List.map_toArray, List.map_cons, List.map_nil]); first | done | rfl) ?_
      with_reducible refine (oread_v _ (l0.drop n) _ ?s0).mono ?_
      (case s0 => exact (HD.out _ (HR0.out.mv (by repeat (first | exact HB.out | apply below_alloc | apply pw_below_drewN | apply below_drew1)))).bv (by have := HC0.out; have := HN.out; simp only [List.length_drop]; omega) (by have := HN.out; simp only [List.length_drop]; omega))
      rintro e w_40 ⟨g, rfl, hg, hr, hb⟩
      refine ⟨_, rfl, ?_⟩
      have HRB := Aside0.mk hr
      have HGB := Aside0.mk (show w.heap.size ≤ g by rw [hg]; exact below_size (by repeat (first | exact HB.out | apply below_alloc | apply pw_below_drewN | apply below_drew1)))
      have n_ := Aside0.mk (below_step (by repeat (first | exact HB.out | apply below_alloc | apply pw_below_drewN | apply below_drew1)) hb)
      clear HB
      have HB := n_
      clear n_ hb hr hg
      refine hK.out _ _ trivial (fun hHeld => ?_)
      clear hK K
      refine norm_ (a' := ?_) ?_ ?_
      rotate_left
      · show Act.put _ (some 20) _ = _
        simp only [Act.put, List.setIfInBounds_toArray, List.set_cons_zero, List.set_cons_succ, i64_w, i32_w]
        rfl
      refine one_ (i := 4) (N := some 21) #[true, true, true, true, true, true, true, true, false, false] rfl rfl (one_of HT_.out (by kernel_rfl)) (by decide) (fun K hK => ?_)
      refine goes_ Try.func42 (by kernel_rfl) rfl #[(.pointer (some ⟨g, 0, none⟩)), (.int .i64 2)] (by rfl) rfl rfl (by (try simp only [List.map_toArray, List.map_cons, List.map_nil]); first | done | rfl) ?_
      with_reducible refine (onum_c g (l0.drop n) 0 2 X ([], 0) _ ?s0 ?s1 ?s2).mono ?_
      (case s0 => exact HRB.out)
      (case s1 => exact HBY.out.drop n)
      (case s2 => exact HXN.out)
      rintro e w_42 ⟨rfl, hr, hk⟩
      refine ⟨_, rfl, ?_⟩
      have n_ := Aside0.mk (below_kp (by repeat (first | exact HB.out | apply below_alloc | apply pw_below_drewN | apply below_drew1)) hk HGB.out (below_size (by repeat (first | exact HB.out | apply below_alloc | apply pw_below_drewN | apply below_drew1))))
      clear HB
      have HB := n_
      clear n_ hk hr
      refine hK.out _ _ trivial (fun hHeld => ?_)
      clear hK K
      refine norm_ (a' := ?_) ?_ ?_
      rotate_left
      · show Act.put _ (some 21) _ = _
        simp only [Act.put, List.setIfInBounds_toArray, List.set_cons_zero, List.set_cons_succ, i64_w, i32_w]
        rfl
      refine one_ (i := 8) (N := some 25) #[true, true, true, true, true, true, true, true, true, false] rfl rfl (one_of HT_.out (by kernel_rfl)) (by decide) (fun K hK => ?_)
      refine goes_ Try.func27 (by kernel_rfl) rfl #[(.slice (some ad) n c0)] (by rfl) rfl rfl (by (try simp only [List.map_toArray, List.map_cons, List.map_nil]); first | done | rfl) ?_
      with_reducible refine (osum_v _ (l0.take n) _ ?s0 ?s1).mono ?_
      (case s0 => exact ((HR0.out.take (by have := HN.out; omega)).mv (by repeat (first | exact HB.out | apply below_alloc | apply pw_below_drewN | apply below_drew1))).bv (by have := HC0.out; have := HN.out; simp only [List.length_take]; omega) (by have := HN.out; simp only [List.length_take]; omega))
      (case s1 => exact HBY.out.take n)
      rintro e w_27 ⟨rfl, rfl⟩
      refine ⟨_, rfl, ?_⟩
      rw [HSS.out]
      refine hK.out _ _ trivial (fun hHeld => ?_)
      clear hK K
      refine norm_ (a' := ?_) ?_ ?_
      rotate_left
      · show Act.put _ (some 25) _ = _
        simp only [Act.put, List.setIfInBounds_toArray, List.set_cons_zero, List.set_cons_succ, i64_w, i32_w]
        rfl
      refine pure_ (i := 9) (N := some 26) (v := ?_) (a' := ?_) #[true, true, true, true, true, true, true, true, true, true] rfl rfl (any_of HT_.out (by kernel_rfl)) (fun _ _ _ h => h) (Or.inl ⟨by rfl, ?_⟩) ?_ ?_
      rotate_left
      · intro w'
        go_simp
        with_reducible rfl
      rotate_left
      · simp only [Act.put, List.setIfInBounds_toArray, List.set_cons_zero, List.set_cons_succ, i64_w, i32_w]
        rfl
      refine done_ (done_of HT_.out (by kernel_rfl)) ?_

      go_wp2
      refine start_ (n := 11) (S := fun w' => w'.cell? ad = some (Value.int .u8 r1)) (ds := []) #[false, false, false, false, false, false, false, false, false, false, false] (by kernel_rfl) rfl rfl ((Below.cell (B := w.heap.size) (w := w) (by repeat (first | exact HB.out | apply below_alloc | apply pw_below_drewN | apply below_drew1)) (World.block_lt_of_cell? w _ HX0.out)).trans HX0.out) (fun hHeld => ?_)
      refine with_tabW r30_8.tab r30_8.bits (fun HT_ HW_ => ?_)
      refine pure_ (i := 0) (N := some 27) (v := ?_) (a' := ?_) #[true, false, false, false, false, false, false, false, false, false, false] rfl rfl (any_of HT_.out (by kernel_rfl)) (fun _ _ _ h => h) (Or.inl ⟨by rfl, ?_⟩) ?_ ?_
      rotate_left
      · intro w'
        go_simp
        with_reducible rfl
      rotate_left
      · simp only [Act.put, List.setIfInBounds_toArray, List.set_cons_zero, List.set_cons_succ, i64_w, i32_w]
        rfl
      refine pure_ (i := 1) (N := some 28) (v := ?_) (a' := ?_) #[true, true, false, false, false, false, false, false, false, false, false] rfl rfl (any_of HT_.out (by kernel_rfl)) (fun _ _ _ h => h) (Or.inl ⟨by rfl, ?_⟩) ?_ ?_
      rotate_left
      · intro w'
        go_simp
        with_reducible rfl
      rotate_left
      · simp only [Act.put, List.setIfInBounds_toArray, List.set_cons_zero, List.set_cons_succ, i64_w, i32_w]
        rfl
      refine pure_ (i := 4) (N := some 31) (v := ?_) (a' := ?_) #[true, true, false, false, true, false, false, false, false, false, false] rfl rfl (any_of HT_.out (by kernel_rfl)) (fun _ _ _ h => h) (Or.inl ⟨by rfl, ?_⟩) ?_ ?_
      rotate_left
      · intro w'
        go_simp
        with_reducible rfl
      rotate_left
      · simp only [Act.put, List.setIfInBounds_toArray, List.set_cons_zero, List.set_cons_succ, i64_w, i32_w]
        rfl
      refine pure_ (i := 5) (N := some 32) (v := ?_) (a' := ?_) #[true, true, false, false, true, true, false, false, false, false, false] rfl rfl (any_of HT_.out (by kernel_rfl)) (fun _ _ _ h => h) (Or.inl ⟨by rfl, ?_⟩) ?_ ?_
      rotate_left
      · intro w'
        go_simp
        with_reducible rfl
      rotate_left
      · simp only [Act.put, List.setIfInBounds_toArray, List.set_cons_zero, List.set_cons_succ, i64_w, i32_w]
        rfl
      refine pure_ (i := 6) (N := some 33) (v := ?_) (a' := ?_) #[true, true, false, false, true, true, true, false, false, false, false] rfl rfl (any_of HT_.out (by kernel_rfl)) (fun _ _ _ h => h) (Or.inl ⟨by rfl, ?_⟩) ?_ ?_
      rotate_left
      · intro w'
        go_simp
        with_reducible rfl
      rotate_left
      · simp only [Act.put, List.setIfInBounds_toArray, List.set_cons_zero, List.set_cons_succ, i64_w, i32_w]
        rfl
      refine take_ (i := 2) (N := some 29) (v := ?_) (a' := ?_) #[true, true, true, false, true, true, true, false, false, false, false] rfl rfl (take_ofW HT_.out HW_.out (by kernel_rfl)) (fun _ _ _ h => h) (Or.inl ⟨by rfl, ?_⟩) hHeld ?_ ?_
      rotate_left
      · rintro w' s0
        go_simp
        with_reducible rfl
      rotate_left
      · simp only [Act.put, List.setIfInBounds_toArray, List.set_cons_zero, List.set_cons_succ, i64_w, i32_w]
        rfl
      refine pure_ (i := 3) (N := some 30) (v := ?_) (a' := ?_) #[true, true, true, true, true, true, true, false, false, false, false] rfl rfl (any_of HT_.out (by kernel_rfl)) (fun _ _ _ h => h) (Or.inl ⟨by rfl, ?_⟩) ?_ ?_
      rotate_left
      · intro w'
        go_simp
        with_reducible rfl
      rotate_left
      · simp only [Act.put, List.setIfInBounds_toArray, List.set_cons_zero, List.set_cons_succ, i64_w, i32_w]
        rfl
      refine one_ (i := 7) (N := some 34) #[true, true, true, true, true, true, true, true, false, false, false] rfl rfl (one_of HT_.out (by kernel_rfl)) (by decide) (fun K hK => ?_)
      refine goes_ Try.func64 (by kernel_rfl) rfl #[(.slice A2 (n - 1) (c0 - 1))] (by rfl) rfl rfl (by (try simp only [List.map_toArray, List.map_cons, List.map_nil]); first | done | rfl) ?_
      with_reducible refine (clone_v _ ((l0.take n).drop 1) _ ?s0 ?s1).mono ?_
      (case s0 => exact ((HMD.out _ HR0.out).mv (by repeat (first | exact HB.out | apply below_alloc | apply pw_below_drewN | apply below_drew1))).bv (by have := HC0.out; have := HN.out; simp only [List.length_take, List.length_drop]; omega) (by have := HN.out; simp only [List.length_take, List.length_drop]; omega))
      (case s1 => have := HN.out; have := HNL.out; simp only [List.length_take, List.length_drop]; omega)
      rintro e w_64 ⟨v64, rfl, ho, hb⟩
      refine ⟨_, rfl, ?_⟩
      have HO := Aside0.mk (ho.lower (below_size (by repeat (first | exact HB.out | apply below_alloc | apply pw_below_drewN | apply below_drew1))))
      have n_ := Aside0.mk (below_step (by repeat (first | exact HB.out | apply below_alloc | apply pw_below_drewN | apply below_drew1)) hb)
      have HB := n_
      clear n_ hb ho
      refine hK.out _ _ ((Below.cell (B := w.heap.size) (w := w) HB.out (World.block_lt_of_cell? w _ HX0.out)).trans HX0.out) (fun hHeld => ?_)
      clear hK K
      refine norm_ (a' := ?_) ?_ ?_
      rotate_left
      · show Act.put _ (some 34) _ = _
        simp only [Act.put, List.setIfInBounds_toArray, List.set_cons_zero, List.set_cons_succ, i64_w, i32_w]
        rfl
      refine pure_ (i := 8) (N := some 2) (v := ?_) (a' := ?_) #[true, true, true, true, true, true, true, true, true, false, false] rfl rfl (any_of HT_.out (by kernel_rfl)) (fun _ _ _ h => h) (Or.inl ⟨by rfl, ?_⟩) ?_ ?_
      rotate_left
      · intro w'
        go_simp
        with_reducible rfl
      rotate_left
      · simp only [Act.put, List.setIfInBounds_toArray, List.set_cons_zero, List.set_cons_succ, i64_w, i32_w]
        rfl
      refine pure_ (i := 9) (N := some 3) (v := ?_) (a' := ?_) #[true, true, true, true, true, true, true, true, true, true, false] rfl rfl (any_of HT_.out (by kernel_rfl)) (fun _ _ _ h => h) (Or.inl ⟨by rfl, ?_⟩) ?_ ?_
      rotate_left
      · intro w'
        go_simp
        with_reducible rfl
      rotate_left
      · simp only [Act.put, List.setIfInBounds_toArray, List.set_cons_zero, List.set_cons_succ, i64_w, i32_w]
        rfl
      refine pure_ (i := 10) (N := some 4) (v := ?_) (a' := ?_) #[true, true, true, true, true, true, true, true, true, true, true] rfl rfl (any_of HT_.out (by kernel_rfl)) (fun _ _ _ h => h) (Or.inl ⟨by rfl, ?_⟩) ?_ ?_
      rotate_left
      · intro w'
        go_simp
        with_reducible rfl
      rotate_left
      · simp only [Act.put, List.setIfInBounds_toArray, List.set_cons_zero, List.set_cons_succ, i64_w, i32_w]
        rfl
      refine done_ (done_of HT_.out (by kernel_rfl)) ?_

      go_wp2
      go_ret3
      exact ⟨v64, by show Ending.returned (.tuple #[.int .i64 (wrap64 r1), v64, .int .i64 0]) = _; rw [HW1.out], HO.out, HB.out⟩
    · have z9 : (X != S) = true := bne_iff_ne.mpr hq
      have hbe : ¬ be (l0.drop n) = sumS (l0.take n) := fun h => hq (by rw [hX, hS, h])
      obtain ⟨rfl, h2⟩ := Prod.mk.inj ((openS_sum hn hl hs hbe).symm.trans HP.out)
      obtain ⟨rfl, rfl⟩ := Prod.mk.inj h2
      clear hl hs hr0 hc0 h2 hn hX hS hbe hq hx hd hmd hmr
      go_enter Try.func30, Try.ntmps30
      go_wp2
      refine start_ (n := 10) (S := fun w' => True) (ds := []) #[false, false, false, false, false, false, false, false, false, false] (by kernel_rfl) rfl rfl trivial (fun hHeld => ?_)
      refine with_tabW r30_6.tab r30_6.bits (fun HT_ HW_ => ?_)
      refine pure_ (i := 0) (N := some 17) (v := ?_) (a' := ?_) #[true, false, false, false, false, false, false, false, false, false] rfl rfl (any_of HT_.out (by kernel_rfl)) (fun _ _ _ h => h) (Or.inl ⟨by rfl, ?_⟩) ?_ ?_
      rotate_left
      · intro w'
        go_simp
        with_reducible rfl
      rotate_left
      · simp only [Act.put, List.setIfInBounds_toArray, List.set_cons_zero, List.set_cons_succ, i64_w, i32_w]
        rfl
      refine pure_ (i := 1) (N := some 18) (v := ?_) (a' := ?_) #[true, true, false, false, false, false, false, false, false, false] rfl rfl (any_of HT_.out (by kernel_rfl)) (fun _ _ _ h => h) (Or.inl ⟨by rfl, ?_⟩) ?_ ?_
      rotate_left
      · intro w'
        go_simp
        with_reducible rfl
      rotate_left
      · simp only [Act.put, List.setIfInBounds_toArray, List.set_cons_zero, List.set_cons_succ, i64_w, i32_w]
        rfl
      refine pure_ (i := 2) (N := some 19) (v := ?_) (a' := ?_) #[true, true, true, false, false, false, false, false, false, false] rfl rfl (any_of HT_.out (by kernel_rfl)) (fun _ _ _ h => h) (Or.inl ⟨by rfl, ?_⟩) ?_ ?_
      rotate_left
      · intro w'
        go_simp
        with_reducible rfl
      rotate_left
      · simp only [Act.put, List.setIfInBounds_toArray, List.set_cons_zero, List.set_cons_succ, i64_w, i32_w]
        rfl
      refine pure_ (i := 5) (N := some 22) (v := ?_) (a' := ?_) #[true, true, true, false, false, true, false, false, false, false] rfl rfl (any_of HT_.out (by kernel_rfl)) (fun _ _ _ h => h) (Or.inl ⟨by rfl, ?_⟩) ?_ ?_
      rotate_left
      · intro w'
        go_simp
        with_reducible rfl
      rotate_left
      · simp only [Act.put, List.setIfInBounds_toArray, List.set_cons_zero, List.set_cons_succ, i64_w, i32_w]
        rfl
      refine pure_ (i := 6) (N := some 23) (v := ?_) (a' := ?_) #[true, true, true, false, false, true, true, false, false, false] rfl rfl (any_of HT_.out (by kernel_rfl)) (fun _ _ _ h => h) (Or.inl ⟨by rfl, ?_⟩) ?_ ?_
      rotate_left
      · intro w'
        go_simp
        with_reducible rfl
      rotate_left
      · simp only [Act.put, List.setIfInBounds_toArray, List.set_cons_zero, List.set_cons_succ, i64_w, i32_w]
        rfl
      refine pure_ (i := 7) (N := some 24) (v := ?_) (a' := ?_) #[true, true, true, false, false, true, true, true, false, false] rfl rfl (any_of HT_.out (by kernel_rfl)) (fun _ _ _ h => h) (Or.inl ⟨by rfl, ?_⟩) ?_ ?_
      rotate_left
      · intro w'
        go_simp
        with_reducible rfl
      rotate_left
      · simp only [Act.put, List.setIfInBounds_toArray, List.set_cons_zero, List.set_cons_succ, i64_w, i32_w]
        rfl
      refine one_ (i := 3) (N := some 20) #[true, true, true, true, false, true, true, true, false, false] rfl rfl (one_of HT_.out (by kernel_rfl)) (by decide) (fun K hK => ?_)
      refine goes_ Try.func40 (by kernel_rfl) rfl #[(.slice A' 2 (c0 - n))] (by rfl) rfl rfl (by (try simp only [List.map_toArray, List.map_cons, List.map_nil]); first | done | rfl) ?_
      with_reducible refine (oread_v _ (l0.drop n) _ ?s0).mono ?_
      (case s0 => exact (HD.out _ (HR0.out.mv (by repeat (first | exact HB.out | apply below_alloc | apply pw_below_drewN | apply below_drew1)))).bv (by have := HC0.out; have := HN.out; simp only [List.length_drop]; omega) (by have := HN.out; simp only [List.length_drop]; omega))
      rintro e w_40 ⟨g, rfl, hg, hr, hb⟩
      refine ⟨_, rfl, ?_⟩
      have HRB := Aside0.mk hr
      have HGB := Aside0.mk (show w.heap.size ≤ g by rw [hg]; exact below_size (by repeat (first | exact HB.out | apply below_alloc | apply pw_below_drewN | apply below_drew1)))
      have n_ := Aside0.mk (below_step (by repeat (first | exact HB.out | apply below_alloc | apply pw_below_drewN | apply below_drew1)) hb)
      clear HB
      have HB := n_
      clear n_ hb hr hg
      refine hK.out _ _ trivial (fun hHeld => ?_)
      clear hK K
      refine norm_ (a' := ?_) ?_ ?_
      rotate_left
      · show Act.put _ (some 20) _ = _
        simp only [Act.put, List.setIfInBounds_toArray, List.set_cons_zero, List.set_cons_succ, i64_w, i32_w]
        rfl
      refine one_ (i := 4) (N := some 21) #[true, true, true, true, true, true, true, true, false, false] rfl rfl (one_of HT_.out (by kernel_rfl)) (by decide) (fun K hK => ?_)
      refine goes_ Try.func42 (by kernel_rfl) rfl #[(.pointer (some ⟨g, 0, none⟩)), (.int .i64 2)] (by rfl) rfl rfl (by (try simp only [List.map_toArray, List.map_cons, List.map_nil]); first | done | rfl) ?_
      with_reducible refine (onum_c g (l0.drop n) 0 2 X ([], 0) _ ?s0 ?s1 ?s2).mono ?_
      (case s0 => exact HRB.out)
      (case s1 => exact HBY.out.drop n)
      (case s2 => exact HXN.out)
      rintro e w_42 ⟨rfl, hr, hk⟩
      refine ⟨_, rfl, ?_⟩
      have n_ := Aside0.mk (below_kp (by repeat (first | exact HB.out | apply below_alloc | apply pw_below_drewN | apply below_drew1)) hk HGB.out (below_size (by repeat (first | exact HB.out | apply below_alloc | apply pw_below_drewN | apply below_drew1))))
      clear HB
      have HB := n_
      clear n_ hk hr
      refine hK.out _ _ trivial (fun hHeld => ?_)
      clear hK K
      refine norm_ (a' := ?_) ?_ ?_
      rotate_left
      · show Act.put _ (some 21) _ = _
        simp only [Act.put, List.setIfInBounds_toArray, List.set_cons_zero, List.set_cons_succ, i64_w, i32_w]
        rfl
      refine one_ (i := 8) (N := some 25) #[true, true, true, true, true, true, true, true, true, false] rfl rfl (one_of HT_.out (by kernel_rfl)) (by decide) (fun K hK => ?_)
      refine goes_ Try.func27 (by kernel_rfl) rfl #[(.slice (some ad) n c0)] (by rfl) rfl rfl (by (try simp only [List.map_toArray, List.map_cons, List.map_nil]); first | done | rfl) ?_
      with_reducible refine (osum_v _ (l0.take n) _ ?s0 ?s1).mono ?_
      (case s0 => exact ((HR0.out.take (by have := HN.out; omega)).mv (by repeat (first | exact HB.out | apply below_alloc | apply pw_below_drewN | apply below_drew1))).bv (by have := HC0.out; have := HN.out; simp only [List.length_take]; omega) (by have := HN.out; simp only [List.length_take]; omega))
      (case s1 => exact HBY.out.take n)
      rintro e w_27 ⟨rfl, rfl⟩
      refine ⟨_, rfl, ?_⟩
      rw [HSS.out]
      refine hK.out _ _ trivial (fun hHeld => ?_)
      clear hK K
      refine norm_ (a' := ?_) ?_ ?_
      rotate_left
      · show Act.put _ (some 25) _ = _
        simp only [Act.put, List.setIfInBounds_toArray, List.set_cons_zero, List.set_cons_succ, i64_w, i32_w]
        rfl
      refine pure_ (i := 9) (N := some 26) (v := ?_) (a' := ?_) #[true, true, true, true, true, true, true, true, true, true] rfl rfl (any_of HT_.out (by kernel_rfl)) (fun _ _ _ h => h) (Or.inl ⟨by rfl, ?_⟩) ?_ ?_
      rotate_left
      · intro w'
        go_simp
        with_reducible rfl
      rotate_left
      · simp only [Act.put, List.setIfInBounds_toArray, List.set_cons_zero, List.set_cons_succ, i64_w, i32_w]
        rfl
      refine done_ (done_of HT_.out (by kernel_rfl)) ?_

      go_wp2
      go_ret3
      exact ⟨_, rfl, BR.nil _ _, by exact HB.out⟩
def r31_6.T : Bool × List (List Nat × List Nat) := (true, [([], []), ([], []), ([1], [1]), ([0, 2], [0, 2]), ([3], [3]), ([], []), ([], []), ([6], [6]), ([5, 7], [5, 7]), ([8], [8]), ([9], [9]), ([10], [10]), ([], []), ([], []), ([13], [13]), ([12, 14], [12, 14]), ([15], [15]), ([16], [16]), ([11, 17], [11, 17]), ([4, 18], [4, 18])])
def r31_6.B : List Nat := [0, 0, 2, 7, 15, 0, 0, 64, 224, 480, 992, 2016, 0, 0, 8192, 28672, 61440, 126976, 262112, 524287]
theorem r31_6.tab : rtab .any (opsOf Try.f31 6) = r31_6.T := by kernel_rfl
theorem r31_6.bits : waitsOk r31_6.T.2 r31_6.B = true := by kernel_rfl
def r31_8.T : Bool × List (List Nat × List Nat) := (true, [([], []), ([0], [0]), ([1], [1]), ([2], [2]), ([], []), ([], []), ([5], [5]), ([4, 6], [4, 6]), ([7], [7]), ([3, 8, 0, 1, 2, 3], [3]), ([8, 9, 0, 1, 2, 3, 4, 5, 6, 7, 8, 9], [8]), ([10, 0, 1, 2, 3, 4, 5, 6, 7, 8, 9, 10], [])])
def r31_8.B : List Nat := [0, 1, 3, 7, 0, 0, 32, 112, 240, 511, 1023, 2047]
theorem r31_8.tab : rtab .any (opsOf Try.f31 8) = r31_8.T := by kernel_rfl
theorem r31_8.bits : waitsOk r31_8.T.2 r31_8.B = true := by kernel_rfl
set_option maxHeartbeats 8000000 in
set_option maxRecDepth 100000 in
theorem ropen_v (v0 : Value) (l0 : List Int) (r1 : Int) (r2 : List Int) (r3 : Int) (w : World) (h0 : BV w v0 l0) (hb : bytesP l0) (h : openS l0 = (r1, r2, r3)) :
    Calls Try.prog 31 #[v0] w fun e w' => ∃ v : Value, e = .returned (.tuple #[.int .i64 r1, v, .int .i64 r3]) ∧ BR w' w.heap.size v r2 ∧ Below w.heap.size w w' := by
  obtain ⟨A0, c0, rfl, hc0, hr0⟩ := h0
  have HR0 := Aside0.mk hr0
  have HC0 := Aside0.mk hc0
  have HBY := Aside0.mk hb
  have HP := Aside0.mk h
  clear hb h
  have HB := Aside0.mk (Below.refl w.heap.size w)
  by_cases hl : 512 < l0.length
  · have z : decide (512 < (l0.length : Int)) = true := decide_eq_true (by omega)
    have z1 : decide (512 < l0.length) = true := decide_eq_true (by omega)
    obtain ⟨rfl, h2⟩ := Prod.mk.inj ((openS_limit hl).symm.trans HP.out)
    obtain ⟨rfl, rfl⟩ := Prod.mk.inj h2
    clear hl hr0 hc0 h2
    go_enter Try.func31, Try.ntmps31
    go_wp2
    go_ret3
    exact ⟨_, rfl, BR.nil _ _, HB.out⟩
  by_cases hs : l0.length < 3
  · have z : decide (512 < (l0.length : Int)) = false := decide_eq_false (by omega)
    have z1 : decide (512 < l0.length) = false := decide_eq_false (by omega)
    have z2 : decide ((l0.length : Int) < 3) = true := decide_eq_true (by omega)
    have z3 : decide (l0.length < 3) = true := decide_eq_true (by omega)
    obtain ⟨rfl, h2⟩ := Prod.mk.inj ((openS_trunc hs).symm.trans HP.out)
    obtain ⟨rfl, rfl⟩ := Prod.mk.inj h2
    clear hl hs hr0 hc0 h2
    go_enter Try.func31, Try.ntmps31
    go_wp2
    go_ret3
    exact ⟨_, rfl, BR.nil _ _, HB.out⟩
  · obtain ⟨n, hn⟩ : ∃ n, l0.length = n + 2 := ⟨l0.length - 2, by omega⟩
    have HN := Aside0.mk hn
    have HL := Aside0.mk hl
    have HS := Aside0.mk hs
    obtain ⟨ad, e1, hx⟩ := hr0.atN 0 (by omega)
    subst e1
    obtain ⟨_, e1, hy0⟩ := hr0.atN n (by omega)
    injection e1 with e1
    subst e1
    obtain ⟨_, e1, hy1⟩ := hr0.atN (n + 1) (by omega)
    injection e1 with e1
    subst e1
    have ht := to_run (some ad) l0 c0 n (by omega) hc0
    obtain ⟨A2, hmr, hmd⟩ := mid_run (some ad) l0 c0 n hn (by omega) hc0
    rw [hn] at ht ⊢
    have HMD := Aside0.mk hmd
    have HNL := Aside0.mk (show n ≤ 510 by omega)
    have hn1 : 1 ≤ n := by omega
    have hn2 : n ≤ 510 := by omega
    obtain ⟨x0, hx0⟩ : ∃ x0 : Nat, l0.getD n 0 = (x0 : Int) := ⟨(l0.getD n 0).toNat, by have := HBY.out.at_ n; omega⟩
    obtain ⟨x1, hx1⟩ : ∃ x1 : Nat, l0.getD (n + 1) 0 = (x1 : Int) := ⟨(l0.getD (n + 1) 0).toNat, by have := HBY.out.at_ (n + 1); omega⟩
    have hx0l : x0 < 256 := by have := HBY.out.at_ n; omega
    have hx1l : x1 < 256 := by have := HBY.out.at_ (n + 1); omega
    rw [hx0] at hy0
    rw [hx1, show ad.add (n + 1) = ⟨ad.block, ad.off + (n + 1), none⟩ by simp [Addr.add]] at hy1
    have HY0 := Aside0.mk hy0
    have HY1 := Aside0.mk hy1
    have hbe2 : be (l0.drop n) = 256 * x0 + x1 := by rw [drop_two hn, be_two, hx0, hx1]; simp
    obtain ⟨S, hS⟩ : ∃ S : Int, S = ((sumS (l0.take n) : Nat) : Int) := ⟨_, rfl⟩
    have HSS := Aside0.mk hS.symm
    have q2 : ((0 : Int) < (n : Int) + 2) = True := eq_true (by omega)
    have q3 : ((n : Int) + 1 < (n : Int) + 2) = True := eq_true (by omega)
    have q4 : ((n : Int) < (n : Int) + 2) = True := eq_true (by omega)
    by_cases hq : S = 256 * (x0 : Int) + (x1 : Int)
    · have z9 : (S != 256 * (x0 : Int) + (x1 : Int)) = false := bne_eq_false_iff_eq.mpr hq
      have hbe : be (l0.drop n) = sumS (l0.take n) := by rw [hbe2]; omega
      obtain ⟨hr1, h2⟩ := Prod.mk.inj ((openS_ok hn hl hs hbe).symm.trans HP.out)
      obtain ⟨rfl, rfl⟩ := Prod.mk.inj h2
      have HX0 := Aside0.mk (show w.cell? ad = some (Value.int .u8 r1) by rw [Addr.add_zero', hr1] at hx; exact hx)
      have hx0' := HBY.out.at_ 0
      rw [hr1] at hx0'
      obtain ⟨hx1', hx2'⟩ := hx0'
      have HW1 : Aside0 (wrap64 r1 = r1) := ⟨by unfold wrap64; omega⟩
      clear hl hs hr0 hc0 h2 hn hx0 hx1 hS hbe hbe2 hq hx hmd hr1 hy0 hy1
      have k1 : wrap64 (n : Int) = n := by unfold wrap64; omega
      have k2 : wrap64 ((n : Int) + 2 - 1) = (n : Int) + 1 := by unfold wrap64; omega
      have k3 : wrap64 (x0 : Int) = x0 := by unfold wrap64; omega
      have k4 : wrap64 (x1 : Int) = x1 := by unfold wrap64; omega
      have k5 : wrap64 (256 * (x0 : Int)) = 256 * (x0 : Int) := by unfold wrap64; omega
      have k6 : wrap64 (256 * (x0 : Int) + (x1 : Int)) = 256 * (x0 : Int) + (x1 : Int) := by unfold wrap64; omega
      have k8 : (0 ≤ (n : Int) + 1) = True := eq_true (by omega)
      have k7 : ((n : Int) + 1).toNat = n + 1 := by omega
      go_enter Try.func31, Try.ntmps31
      go_wp2
      refine start_ (n := 20) (S := fun w' => w'.cell? (ad.add n) = some (Value.int .u8 x0) ∧ w'.cell? ⟨ad.block, ad.off + (n + 1), none⟩ = some (Value.int .u8 x1)) (ds := []) #[false, false, false, false, false, false, false, false, false, false, false, false, false, false, false, false, false, false, false, false] (by kernel_rfl) rfl rfl ⟨(Below.cell (B := w.heap.size) (w := w) (by repeat (first | exact HB.out | apply below_alloc | apply pw_below_drewN | apply below_drew1)) (World.block_lt_of_cell? w _ HY0.out)).trans HY0.out, (Below.cell (B := w.heap.size) (w := w) (by repeat (first | exact HB.out | apply below_alloc | apply pw_below_drewN | apply below_drew1)) (World.block_lt_of_cell? w _ HY1.out)).trans HY1.out⟩ (fun hHeld => ?_)
      refine with_tabW r31_6.tab r31_6.bits (fun HT_ HW_ => ?_)
      refine pure_ (i := 0) (N := some 12) (v := ?_) (a' := ?_) #[true, false, false, false, false, false, false, false, false, false, false, false, false, false, false, false, false, false, false, false] rfl rfl (any_of HT_.out (by kernel_rfl)) (fun _ _ _ h => h) (Or.inl ⟨by rfl, ?_⟩) ?_ ?_
      rotate_left
      · intro w'
        go_simp
        with_reducible rfl
      rotate_left
      · simp only [Act.put, List.setIfInBounds_toArray, List.set_cons_zero, List.set_cons_succ, i64_w, i32_w]
        rfl
      refine pure_ (i := 1) (N := some 13) (v := ?_) (a' := ?_) #[true, true, false, false, false, false, false, false, false, false, false, false, false, false, false, false, false, false, false, false] rfl rfl (any_of HT_.out (by kernel_rfl)) (fun _ _ _ h => h) (Or.inl ⟨by rfl, ?_⟩) ?_ ?_
      rotate_left
      · intro w'
        go_simp
        with_reducible rfl
      rotate_left
      · simp only [Act.put, List.setIfInBounds_toArray, List.set_cons_zero, List.set_cons_succ, i64_w, i32_w]
        rfl
      refine pure_ (i := 2) (N := some 14) (v := ?_) (a' := ?_) #[true, true, true, false, false, false, false, false, false, false, false, false, false, false, false, false, false, false, false, false] rfl rfl (any_of HT_.out (by kernel_rfl)) (fun _ _ _ h => h) (Or.inl ⟨by rfl, ?_⟩) ?_ ?_
      rotate_left
      · intro w'
        go_simp
        with_reducible rfl
      rotate_left
      · simp only [Act.put, List.setIfInBounds_toArray, List.set_cons_zero, List.set_cons_succ, i64_w, i32_w]
        rfl
      refine pure_ (i := 3) (N := some 15) (v := ?_) (a' := ?_) #[true, true, true, true, false, false, false, false, false, false, false, false, false, false, false, false, false, false, false, false] rfl rfl (any_of HT_.out (by kernel_rfl)) (fun _ _ _ h => h) (Or.inl ⟨by rfl, ?_⟩) ?_ ?_
      rotate_left
      · intro w'
        go_simp
        with_reducible rfl
      rotate_left
      · simp only [Act.put, List.setIfInBounds_toArray, List.set_cons_zero, List.set_cons_succ, i64_w, i32_w]
        rfl
      refine pure_ (i := 5) (N := some 17) (v := ?_) (a' := ?_) #[true, true, true, true, false, true, false, false, false, false, false, false, false, false, false, false, false, false, false, false] rfl rfl (any_of HT_.out (by kernel_rfl)) (fun _ _ _ h => h) (Or.inl ⟨by rfl, ?_⟩) ?_ ?_
      rotate_left
      · intro w'
        go_simp
        with_reducible rfl
      rotate_left
      · simp only [Act.put, List.setIfInBounds_toArray, List.set_cons_zero, List.set_cons_succ, i64_w, i32_w]
        rfl
      refine pure_ (i := 6) (N := some 18) (v := ?_) (a' := ?_) #[true, true, true, true, false, true, true, false, false, false, false, false, false, false, false, false, false, false, false, false] rfl rfl (any_of HT_.out (by kernel_rfl)) (fun _ _ _ h => h) (Or.inl ⟨by rfl, ?_⟩) ?_ ?_
      rotate_left
      · intro w'
        go_simp
        with_reducible rfl
      rotate_left
      · simp only [Act.put, List.setIfInBounds_toArray, List.set_cons_zero, List.set_cons_succ, i64_w, i32_w]
        rfl
      refine pure_ (i := 7) (N := some 19) (v := ?_) (a' := ?_) #[true, true, true, true, false, true, true, true, false, false, false, false, false, false, false, false, false, false, false, false] rfl rfl (any_of HT_.out (by kernel_rfl)) (fun _ _ _ h => h) (Or.inl ⟨by rfl, ?_⟩) ?_ ?_
      rotate_left
      · intro w'
        go_simp
        with_reducible rfl
      rotate_left
      · simp only [Act.put, List.setIfInBounds_toArray, List.set_cons_zero, List.set_cons_succ, i64_w, i32_w]
        rfl
      refine pure_ (i := 8) (N := some 20) (v := ?_) (a' := ?_) #[true, true, true, true, false, true, true, true, true, false, false, false, false, false, false, false, false, false, false, false] rfl rfl (any_of HT_.out (by kernel_rfl)) (fun _ _ _ h => h) (Or.inl ⟨by rfl, ?_⟩) ?_ ?_
      rotate_left
      · intro w'
        go_simp
        with_reducible rfl
      rotate_left
      · simp only [Act.put, List.setIfInBounds_toArray, List.set_cons_zero, List.set_cons_succ, i64_w, i32_w]
        rfl
      refine pure_ (i := 12) (N := some 24) (v := ?_) (a' := ?_) #[true, true, true, true, false, true, true, true, true, false, false, false, true, false, false, false, false, false, false, false] rfl rfl (any_of HT_.out (by kernel_rfl)) (fun _ _ _ h => h) (Or.inl ⟨by rfl, ?_⟩) ?_ ?_
      rotate_left
      · intro w'
        go_simp
        with_reducible rfl
      rotate_left
      · simp only [Act.put, List.setIfInBounds_toArray, List.set_cons_zero, List.set_cons_succ, i64_w, i32_w]
        rfl
      refine pure_ (i := 13) (N := some 25) (v := ?_) (a' := ?_) #[true, true, true, true, false, true, true, true, true, false, false, false, true, true, false, false, false, false, false, false] rfl rfl (any_of HT_.out (by kernel_rfl)) (fun _ _ _ h => h) (Or.inl ⟨by rfl, ?_⟩) ?_ ?_
      rotate_left
      · intro w'
        go_simp
        with_reducible rfl
      rotate_left
      · simp only [Act.put, List.setIfInBounds_toArray, List.set_cons_zero, List.set_cons_succ, i64_w, i32_w]
        rfl
      refine pure_ (i := 14) (N := some 26) (v := ?_) (a' := ?_) #[true, true, true, true, false, true, true, true, true, false, false, false, true, true, true, false, false, false, false, false] rfl rfl (any_of HT_.out (by kernel_rfl)) (fun _ _ _ h => h) (Or.inl ⟨by rfl, ?_⟩) ?_ ?_
      rotate_left
      · intro w'
        go_simp
        with_reducible rfl
      rotate_left
      · simp only [Act.put, List.setIfInBounds_toArray, List.set_cons_zero, List.set_cons_succ, i64_w, i32_w]
        rfl
      refine pure_ (i := 15) (N := some 27) (v := ?_) (a' := ?_) #[true, true, true, true, false, true, true, true, true, false, false, false, true, true, true, true, false, false, false, false] rfl rfl (any_of HT_.out (by kernel_rfl)) (fun _ _ _ h => h) (Or.inl ⟨by rfl, ?_⟩) ?_ ?_
      rotate_left
      · intro w'
        go_simp
        with_reducible rfl
      rotate_left
      · simp only [Act.put, List.setIfInBounds_toArray, List.set_cons_zero, List.set_cons_succ, i64_w, i32_w]
        rfl
      refine take_ (i := 9) (N := some 21) (v := ?_) (a' := ?_) #[true, true, true, true, false, true, true, true, true, true, false, false, true, true, true, true, false, false, false, false] rfl rfl (take_ofW HT_.out HW_.out (by kernel_rfl)) (fun _ _ _ h => h) (Or.inl ⟨by rfl, ?_⟩) hHeld ?_ ?_
      rotate_left
      · rintro w' ⟨s0, s1⟩
        go_simp
        with_reducible rfl
      rotate_left
      · simp only [Act.put, List.setIfInBounds_toArray, List.set_cons_zero, List.set_cons_succ, i64_w, i32_w]
        rfl
      refine pure_ (i := 10) (N := some 22) (v := ?_) (a' := ?_) #[true, true, true, true, false, true, true, true, true, true, true, false, true, true, true, true, false, false, false, false] rfl rfl (any_of HT_.out (by kernel_rfl)) (fun _ _ _ h => h) (Or.inl ⟨by rfl, ?_⟩) ?_ ?_
      rotate_left
      · intro w'
        go_simp
        with_reducible rfl
      rotate_left
      · simp only [Act.put, List.setIfInBounds_toArray, List.set_cons_zero, List.set_cons_succ, i64_w, i32_w]
        rfl
      refine pure_ (i := 11) (N := some 23) (v := ?_) (a' := ?_) #[true, true, true, true, false, true, true, true, true, true, true, true, true, true, true, true, false, false, false, false] rfl rfl (any_of HT_.out (by kernel_rfl)) (fun _ _ _ h => h) (Or.inl ⟨by rfl, ?_⟩) ?_ ?_
      rotate_left
      · intro w'
        go_simp
        with_reducible rfl
      rotate_left
      · simp only [Act.put, List.setIfInBounds_toArray, List.set_cons_zero, List.set_cons_succ, i64_w, i32_w]
        rfl
      refine take_ (i := 16) (N := some 28) (v := ?_) (a' := ?_) #[true, true, true, true, false, true, true, true, true, true, true, true, true, true, true, true, true, false, false, false] rfl rfl (take_ofW HT_.out HW_.out (by kernel_rfl)) (fun _ _ _ h => h) (Or.inl ⟨by rfl, ?_⟩) hHeld ?_ ?_
      rotate_left
      · rintro w' ⟨s0, s1⟩
        go_simp
        with_reducible rfl
      rotate_left
      · simp only [Act.put, List.setIfInBounds_toArray, List.set_cons_zero, List.set_cons_succ, i64_w, i32_w]
        rfl
      refine pure_ (i := 17) (N := some 29) (v := ?_) (a' := ?_) #[true, true, true, true, false, true, true, true, true, true, true, true, true, true, true, true, true, true, false, false] rfl rfl (any_of HT_.out (by kernel_rfl)) (fun _ _ _ h => h) (Or.inl ⟨by rfl, ?_⟩) ?_ ?_
      rotate_left
      · intro w'
        go_simp
        with_reducible rfl
      rotate_left
      · simp only [Act.put, List.setIfInBounds_toArray, List.set_cons_zero, List.set_cons_succ, i64_w, i32_w]
        rfl
      refine pure_ (i := 18) (N := some 30) (v := ?_) (a' := ?_) #[true, true, true, true, false, true, true, true, true, true, true, true, true, true, true, true, true, true, true, false] rfl rfl (any_of HT_.out (by kernel_rfl)) (fun _ _ _ h => h) (Or.inl ⟨by rfl, ?_⟩) ?_ ?_
      rotate_left
      · intro w'
        go_simp
        with_reducible rfl
      rotate_left
      · simp only [Act.put, List.setIfInBounds_toArray, List.set_cons_zero, List.set_cons_succ, i64_w, i32_w]
        rfl
      refine one_ (i := 4) (N := some 16) #[true, true, true, true, true, true, true, true, true, true, true, true, true, true, true, true, true, true, true, false] rfl rfl (one_of HT_.out (by kernel_rfl)) (by decide) (fun K hK => ?_)
      refine goes_ Try.func28 (by kernel_rfl) rfl #[(.slice (some ad) n c0)] (by rfl) rfl rfl (by (try simp only [List.map_toArray, List.map_cons, List.map_nil]); first | done | rfl) ?_
      with_reducible refine (rsum_v _ (l0.take n) _ ?s0 ?s1).mono ?_
      (case s0 => exact ((HR0.out.take (by have := HN.out; omega)).mv (by repeat (first | exact HB.out | apply below_alloc | apply pw_below_drewN | apply below_drew1))).bv (by have := HC0.out; have := HN.out; simp only [List.length_take]; omega) (by have := HN.out; simp only [List.length_take]; omega))
      (case s1 => exact HBY.out.take n)
      rintro e w_28 ⟨rfl, rfl⟩
      refine ⟨_, rfl, ?_⟩
      rw [HSS.out]
      refine hK.out _ _ ⟨(Below.cell (B := w.heap.size) (w := w) (by repeat (first | exact HB.out | apply below_alloc | apply pw_below_drewN | apply below_drew1)) (World.block_lt_of_cell? w _ HY0.out)).trans HY0.out, (Below.cell (B := w.heap.size) (w := w) (by repeat (first | exact HB.out | apply below_alloc | apply pw_below_drewN | apply below_drew1)) (World.block_lt_of_cell? w _ HY1.out)).trans HY1.out⟩ (fun hHeld => ?_)
      clear hK K
      refine norm_ (a' := ?_) ?_ ?_
      rotate_left
      · show Act.put _ (some 16) _ = _
        simp only [Act.put, List.setIfInBounds_toArray, List.set_cons_zero, List.set_cons_succ, i64_w, i32_w]
        rfl
      refine pure_ (i := 19) (N := some 31) (v := ?_) (a' := ?_) #[true, true, true, true, true, true, true, true, true, true, true, true, true, true, true, true, true, true, true, true] rfl rfl (any_of HT_.out (by kernel_rfl)) (fun _ _ _ h => h) (Or.inl ⟨by rfl, ?_⟩) ?_ ?_
      rotate_left
      · intro w'
        go_simp
        with_reducible rfl
      rotate_left
      · simp only [Act.put, List.setIfInBounds_toArray, List.set_cons_zero, List.set_cons_succ, i64_w, i32_w]
        rfl
      refine done_ (done_of HT_.out (by kernel_rfl)) ?_

      go_wp2
      refine start_ (n := 12) (S := fun w' => w'.cell? ad = some (Value.int .u8 r1)) (ds := []) #[false, false, false, false, false, false, false, false, false, false, false, false] (by kernel_rfl) rfl rfl ((Below.cell (B := w.heap.size) (w := w) (by repeat (first | exact HB.out | apply below_alloc | apply pw_below_drewN | apply below_drew1)) (World.block_lt_of_cell? w _ HX0.out)).trans HX0.out) (fun hHeld => ?_)
      refine with_tabW r31_8.tab r31_8.bits (fun HT_ HW_ => ?_)
      refine pure_ (i := 0) (N := some 32) (v := ?_) (a' := ?_) #[true, false, false, false, false, false, false, false, false, false, false, false] rfl rfl (any_of HT_.out (by kernel_rfl)) (fun _ _ _ h => h) (Or.inl ⟨by rfl, ?_⟩) ?_ ?_
      rotate_left
      · intro w'
        go_simp
        with_reducible rfl
      rotate_left
      · simp only [Act.put, List.setIfInBounds_toArray, List.set_cons_zero, List.set_cons_succ, i64_w, i32_w]
        rfl
      refine pure_ (i := 1) (N := some 33) (v := ?_) (a' := ?_) #[true, true, false, false, false, false, false, false, false, false, false, false] rfl rfl (any_of HT_.out (by kernel_rfl)) (fun _ _ _ h => h) (Or.inl ⟨by rfl, ?_⟩) ?_ ?_
      rotate_left
      · intro w'
        go_simp
        with_reducible rfl
      rotate_left
      · simp only [Act.put, List.setIfInBounds_toArray, List.set_cons_zero, List.set_cons_succ, i64_w, i32_w]
        rfl
      refine pure_ (i := 4) (N := some 36) (v := ?_) (a' := ?_) #[true, true, false, false, true, false, false, false, false, false, false, false] rfl rfl (any_of HT_.out (by kernel_rfl)) (fun _ _ _ h => h) (Or.inl ⟨by rfl, ?_⟩) ?_ ?_
      rotate_left
      · intro w'
        go_simp
        with_reducible rfl
      rotate_left
      · simp only [Act.put, List.setIfInBounds_toArray, List.set_cons_zero, List.set_cons_succ, i64_w, i32_w]
        rfl
      refine pure_ (i := 5) (N := some 37) (v := ?_) (a' := ?_) #[true, true, false, false, true, true, false, false, false, false, false, false] rfl rfl (any_of HT_.out (by kernel_rfl)) (fun _ _ _ h => h) (Or.inl ⟨by rfl, ?_⟩) ?_ ?_
      rotate_left
      · intro w'
        go_simp
        with_reducible rfl
      rotate_left
      · simp only [Act.put, List.setIfInBounds_toArray, List.set_cons_zero, List.set_cons_succ, i64_w, i32_w]
        rfl
      refine pure_ (i := 6) (N := some 38) (v := ?_) (a' := ?_) #[true, true, false, false, true, true, true, false, false, false, false, false] rfl rfl (any_of HT_.out (by kernel_rfl)) (fun _ _ _ h => h) (Or.inl ⟨by rfl, ?_⟩) ?_ ?_
      rotate_left
      · intro w'
        go_simp
        with_reducible rfl
      rotate_left
      · simp only [Act.put, List.setIfInBounds_toArray, List.set_cons_zero, List.set_cons_succ, i64_w, i32_w]
        rfl
      refine pure_ (i := 7) (N := some 39) (v := ?_) (a' := ?_) #[true, true, false, false, true, true, true, true, false, false, false, false] rfl rfl (any_of HT_.out (by kernel_rfl)) (fun _ _ _ h => h) (Or.inl ⟨by rfl, ?_⟩) ?_ ?_
      rotate_left
      · intro w'
        go_simp
        with_reducible rfl
      rotate_left
      · simp only [Act.put, List.setIfInBounds_toArray, List.set_cons_zero, List.set_cons_succ, i64_w, i32_w]
        rfl
      refine take_ (i := 2) (N := some 34) (v := ?_) (a' := ?_) #[true, true, true, false, true, true, true, true, false, false, false, false] rfl rfl (take_ofW HT_.out HW_.out (by kernel_rfl)) (fun _ _ _ h => h) (Or.inl ⟨by rfl, ?_⟩) hHeld ?_ ?_
      rotate_left
      · rintro w' s0
        go_simp
        with_reducible rfl
      rotate_left
      · simp only [Act.put, List.setIfInBounds_toArray, List.set_cons_zero, List.set_cons_succ, i64_w, i32_w]
        rfl
      refine pure_ (i := 3) (N := some 35) (v := ?_) (a' := ?_) #[true, true, true, true, true, true, true, true, false, false, false, false] rfl rfl (any_of HT_.out (by kernel_rfl)) (fun _ _ _ h => h) (Or.inl ⟨by rfl, ?_⟩) ?_ ?_
      rotate_left
      · intro w'
        go_simp
        with_reducible rfl
      rotate_left
      · simp only [Act.put, List.setIfInBounds_toArray, List.set_cons_zero, List.set_cons_succ, i64_w, i32_w]
        rfl
      refine one_ (i := 8) (N := some 40) #[true, true, true, true, true, true, true, true, true, false, false, false] rfl rfl (one_of HT_.out (by kernel_rfl)) (by decide) (fun K hK => ?_)
      refine goes_ Try.func19 (by kernel_rfl) rfl #[(.slice A2 (n - 1) (c0 - 1))] (by rfl) rfl rfl (by (try simp only [List.map_toArray, List.map_cons, List.map_nil]); first | done | rfl) ?_
      with_reducible refine (copyBytes_v _ ((l0.take n).drop 1) _ ?s0 ?s1).mono ?_
      (case s0 => exact ((HMD.out _ HR0.out).mv (by repeat (first | exact HB.out | apply below_alloc | apply pw_below_drewN | apply below_drew1))).bv (by have := HC0.out; have := HN.out; simp only [List.length_take, List.length_drop]; omega) (by have := HN.out; simp only [List.length_take, List.length_drop]; omega))
      (case s1 => have := HN.out; have := HNL.out; simp only [List.length_take, List.length_drop]; omega)
      rintro e w_19 ⟨v64, rfl, ho, hb⟩
      refine ⟨_, rfl, ?_⟩
      have HO := Aside0.mk (ho.lower (below_size (by repeat (first | exact HB.out | apply below_alloc | apply pw_below_drewN | apply below_drew1))))
      have n_ := Aside0.mk (below_step (by repeat (first | exact HB.out | apply below_alloc | apply pw_below_drewN | apply below_drew1)) hb)
      have HB := n_
      clear n_ hb ho
      refine hK.out _ _ ((Below.cell (B := w.heap.size) (w := w) HB.out (World.block_lt_of_cell? w _ HX0.out)).trans HX0.out) (fun hHeld => ?_)
      clear hK K
      refine norm_ (a' := ?_) ?_ ?_
      rotate_left
      · show Act.put _ (some 40) _ = _
        simp only [Act.put, List.setIfInBounds_toArray, List.set_cons_zero, List.set_cons_succ, i64_w, i32_w]
        rfl
      refine pure_ (i := 9) (N := some 2) (v := ?_) (a' := ?_) #[true, true, true, true, true, true, true, true, true, true, false, false] rfl rfl (any_of HT_.out (by kernel_rfl)) (fun _ _ _ h => h) (Or.inl ⟨by rfl, ?_⟩) ?_ ?_
      rotate_left
      · intro w'
        go_simp
        with_reducible rfl
      rotate_left
      · simp only [Act.put, List.setIfInBounds_toArray, List.set_cons_zero, List.set_cons_succ, i64_w, i32_w]
        rfl
      refine pure_ (i := 10) (N := some 3) (v := ?_) (a' := ?_) #[true, true, true, true, true, true, true, true, true, true, true, false] rfl rfl (any_of HT_.out (by kernel_rfl)) (fun _ _ _ h => h) (Or.inl ⟨by rfl, ?_⟩) ?_ ?_
      rotate_left
      · intro w'
        go_simp
        with_reducible rfl
      rotate_left
      · simp only [Act.put, List.setIfInBounds_toArray, List.set_cons_zero, List.set_cons_succ, i64_w, i32_w]
        rfl
      refine pure_ (i := 11) (N := some 4) (v := ?_) (a' := ?_) #[true, true, true, true, true, true, true, true, true, true, true, true] rfl rfl (any_of HT_.out (by kernel_rfl)) (fun _ _ _ h => h) (Or.inl ⟨by rfl, ?_⟩) ?_ ?_
      rotate_left
      · intro w'
        go_simp
        with_reducible rfl
      rotate_left
      · simp only [Act.put, List.setIfInBounds_toArray, List.set_cons_zero, List.set_cons_succ, i64_w, i32_w]
        rfl
      refine done_ (done_of HT_.out (by kernel_rfl)) ?_

      go_wp2
      go_ret3
      exact ⟨v64, by show Ending.returned (.tuple #[.int .i64 (wrap64 r1), v64, .int .i64 0]) = _; rw [HW1.out], HO.out, HB.out⟩
    · have z9 : (S != 256 * (x0 : Int) + (x1 : Int)) = true := bne_iff_ne.mpr hq
      have hbe : ¬ be (l0.drop n) = sumS (l0.take n) := by rw [hbe2]; omega
      obtain ⟨rfl, h2⟩ := Prod.mk.inj ((openS_sum hn hl hs hbe).symm.trans HP.out)
      obtain ⟨rfl, rfl⟩ := Prod.mk.inj h2
      clear hl hs hr0 hc0 h2 hn hx0 hx1 hS hbe hbe2 hq hx hmd hmr hy0 hy1
      have k1 : wrap64 (n : Int) = n := by unfold wrap64; omega
      have k2 : wrap64 ((n : Int) + 2 - 1) = (n : Int) + 1 := by unfold wrap64; omega
      have k3 : wrap64 (x0 : Int) = x0 := by unfold wrap64; omega
      have k4 : wrap64 (x1 : Int) = x1 := by unfold wrap64; omega
      have k5 : wrap64 (256 * (x0 : Int)) = 256 * (x0 : Int) := by unfold wrap64; omega
      have k6 : wrap64 (256 * (x0 : Int) + (x1 : Int)) = 256 * (x0 : Int) + (x1 : Int) := by unfold wrap64; omega
      have k8 : (0 ≤ (n : Int) + 1) = True := eq_true (by omega)
      have k7 : ((n : Int) + 1).toNat = n + 1 := by omega
      go_enter Try.func31, Try.ntmps31
      go_wp2
      refine start_ (n := 20) (S := fun w' => w'.cell? (ad.add n) = some (Value.int .u8 x0) ∧ w'.cell? ⟨ad.block, ad.off + (n + 1), none⟩ = some (Value.int .u8 x1)) (ds := []) #[false, false, false, false, false, false, false, false, false, false, false, false, false, false, false, false, false, false, false, false] (by kernel_rfl) rfl rfl ⟨(Below.cell (B := w.heap.size) (w := w) (by repeat (first | exact HB.out | apply below_alloc | apply pw_below_drewN | apply below_drew1)) (World.block_lt_of_cell? w _ HY0.out)).trans HY0.out, (Below.cell (B := w.heap.size) (w := w) (by repeat (first | exact HB.out | apply below_alloc | apply pw_below_drewN | apply below_drew1)) (World.block_lt_of_cell? w _ HY1.out)).trans HY1.out⟩ (fun hHeld => ?_)
      refine with_tabW r31_6.tab r31_6.bits (fun HT_ HW_ => ?_)
      refine pure_ (i := 0) (N := some 12) (v := ?_) (a' := ?_) #[true, false, false, false, false, false, false, false, false, false, false, false, false, false, false, false, false, false, false, false] rfl rfl (any_of HT_.out (by kernel_rfl)) (fun _ _ _ h => h) (Or.inl ⟨by rfl, ?_⟩) ?_ ?_
      rotate_left
      · intro w'
        go_simp
        with_reducible rfl
      rotate_left
      · simp only [Act.put, List.setIfInBounds_toArray, List.set_cons_zero, List.set_cons_succ, i64_w, i32_w]
        rfl
      refine pure_ (i := 1) (N := some 13) (v := ?_) (a' := ?_) #[true, true, false, false, false, false, false, false, false, false, false, false, false, false, false, false, false, false, false, false] rfl rfl (any_of HT_.out (by kernel_rfl)) (fun _ _ _ h => h) (Or.inl ⟨by rfl, ?_⟩) ?_ ?_
      rotate_left
      · intro w'
        go_simp
        with_reducible rfl
      rotate_left
      · simp only [Act.put, List.setIfInBounds_toArray, List.set_cons_zero, List.set_cons_succ, i64_w, i32_w]
        rfl
      refine pure_ (i := 2) (N := some 14) (v := ?_) (a' := ?_) #[true, true, true, false, false, false, false, false, false, false, false, false, false, false, false, false, false, false, false, false] rfl rfl (any_of HT_.out (by kernel_rfl)) (fun _ _ _ h => h) (Or.inl ⟨by rfl, ?_⟩) ?_ ?_
      rotate_left
      · intro w'
        go_simp
        with_reducible rfl
      rotate_left
      · simp only [Act.put, List.setIfInBounds_toArray, List.set_cons_zero, List.set_cons_succ, i64_w, i32_w]
        rfl
      refine pure_ (i := 3) (N := some 15) (v := ?_) (a' := ?_) #[true, true, true, true, false, false, false, false, false, false, false, false, false, false, false, false, false, false, false, false] rfl rfl (any_of HT_.out (by kernel_rfl)) (fun _ _ _ h => h) (Or.inl ⟨by rfl, ?_⟩) ?_ ?_
      rotate_left
      · intro w'
        go_simp
        with_reducible rfl
      rotate_left
      · simp only [Act.put, List.setIfInBounds_toArray, List.set_cons_zero, List.set_cons_succ, i64_w, i32_w]
        rfl
      refine pure_ (i := 5) (N := some 17) (v := ?_) (a' := ?_) #[true, true, true, true, false, true, false, false, false, false, false, false, false, false, false, false, false, false, false, false] rfl rfl (any_of HT_.out (by kernel_rfl)) (fun _ _ _ h => h) (Or.inl ⟨by rfl, ?_⟩) ?_ ?_
      rotate_left
      · intro w'
        go_simp
        with_reducible rfl
      rotate_left
      · simp only [Act.put, List.setIfInBounds_toArray, List.set_cons_zero, List.set_cons_succ, i64_w, i32_w]
        rfl
      refine pure_ (i := 6) (N := some 18) (v := ?_) (a' := ?_) #[true, true, true, true, false, true, true, false, false, false, false, false, false, false, false, false, false, false, false, false] rfl rfl (any_of HT_.out (by kernel_rfl)) (fun _ _ _ h => h) (Or.inl ⟨by rfl, ?_⟩) ?_ ?_
      rotate_left
      · intro w'
        go_simp
        with_reducible rfl
      rotate_left
      · simp only [Act.put, List.setIfInBounds_toArray, List.set_cons_zero, List.set_cons_succ, i64_w, i32_w]
        rfl
      refine pure_ (i := 7) (N := some 19) (v := ?_) (a' := ?_) #[true, true, true, true, false, true, true, true, false, false, false, false, false, false, false, false, false, false, false, false] rfl rfl (any_of HT_.out (by kernel_rfl)) (fun _ _ _ h => h) (Or.inl ⟨by rfl, ?_⟩) ?_ ?_
      rotate_left
      · intro w'
        go_simp
        with_reducible rfl
      rotate_left
      · simp only [Act.put, List.setIfInBounds_toArray, List.set_cons_zero, List.set_cons_succ, i64_w, i32_w]
        rfl
      refine pure_ (i := 8) (N := some 20) (v := ?_) (a' := ?_) #[true, true, true, true, false, true, true, true, true, false, false, false, false, false, false, false, false, false, false, false] rfl rfl (any_of HT_.out (by kernel_rfl)) (fun _ _ _ h => h) (Or.inl ⟨by rfl, ?_⟩) ?_ ?_
      rotate_left
      · intro w'
        go_simp
        with_reducible rfl
      rotate_left
      · simp only [Act.put, List.setIfInBounds_toArray, List.set_cons_zero, List.set_cons_succ, i64_w, i32_w]
        rfl
      refine pure_ (i := 12) (N := some 24) (v := ?_) (a' := ?_) #[true, true, true, true, false, true, true, true, true, false, false, false, true, false, false, false, false, false, false, false] rfl rfl (any_of HT_.out (by kernel_rfl)) (fun _ _ _ h => h) (Or.inl ⟨by rfl, ?_⟩) ?_ ?_
      rotate_left
      · intro w'
        go_simp
        with_reducible rfl
      rotate_left
      · simp only [Act.put, List.setIfInBounds_toArray, List.set_cons_zero, List.set_cons_succ, i64_w, i32_w]
        rfl
      refine pure_ (i := 13) (N := some 25) (v := ?_) (a' := ?_) #[true, true, true, true, false, true, true, true, true, false, false, false, true, true, false, false, false, false, false, false] rfl rfl (any_of HT_.out (by kernel_rfl)) (fun _ _ _ h => h) (Or.inl ⟨by rfl, ?_⟩) ?_ ?_
      rotate_left
      · intro w'
        go_simp
        with_reducible rfl
      rotate_left
      · simp only [Act.put, List.setIfInBounds_toArray, List.set_cons_zero, List.set_cons_succ, i64_w, i32_w]
        rfl
      refine pure_ (i := 14) (N := some 26) (v := ?_) (a' := ?_) #[true, true, true, true, false, true, true, true, true, false, false, false, true, true, true, false, false, false, false, false] rfl rfl (any_of HT_.out (by kernel_rfl)) (fun _ _ _ h => h) (Or.inl ⟨by rfl, ?_⟩) ?_ ?_
      rotate_left
      · intro w'
        go_simp
        with_reducible rfl
      rotate_left
      · simp only [Act.put, List.setIfInBounds_toArray, List.set_cons_zero, List.set_cons_succ, i64_w, i32_w]
        rfl
      refine pure_ (i := 15) (N := some 27) (v := ?_) (a' := ?_) #[true, true, true, true, false, true, true, true, true, false, false, false, true, true, true, true, false, false, false, false] rfl rfl (any_of HT_.out (by kernel_rfl)) (fun _ _ _ h => h) (Or.inl ⟨by rfl, ?_⟩) ?_ ?_
      rotate_left
      · intro w'
        go_simp
        with_reducible rfl
      rotate_left
      · simp only [Act.put, List.setIfInBounds_toArray, List.set_cons_zero, List.set_cons_succ, i64_w, i32_w]
        rfl
      refine take_ (i := 9) (N := some 21) (v := ?_) (a' := ?_) #[true, true, true, true, false, true, true, true, true, true, false, false, true, true, true, true, false, false, false, false] rfl rfl (take_ofW HT_.out HW_.out (by kernel_rfl)) (fun _ _ _ h => h) (Or.inl ⟨by rfl, ?_⟩) hHeld ?_ ?_
      rotate_left
      · rintro w' ⟨s0, s1⟩
        go_simp
        with_reducible rfl
      rotate_left
      · simp only [Act.put, List.setIfInBounds_toArray, List.set_cons_zero, List.set_cons_succ, i64_w, i32_w]
        rfl
      refine pure_ (i := 10) (N := some 22) (v := ?_) (a' := ?_) #[true, true, true, true, false, true, true, true, true, true, true, false, true, true, true, true, false, false, false, false] rfl rfl (any_of HT_.out (by kernel_rfl)) (fun _ _ _ h => h) (Or.inl ⟨by rfl, ?_⟩) ?_ ?_
      rotate_left
      · intro w'
        go_simp
        with_reducible rfl
      rotate_left
      · simp only [Act.put, List.setIfInBounds_toArray, List.set_cons_zero, List.set_cons_succ, i64_w, i32_w]
        rfl
      refine pure_ (i := 11) (N := some 23) (v := ?_) (a' := ?_) #[true, true, true, true, false, true, true, true, true, true, true, true, true, true, true, true, false, false, false, false] rfl rfl (any_of HT_.out (by kernel_rfl)) (fun _ _ _ h => h) (Or.inl ⟨by rfl, ?_⟩) ?_ ?_
      rotate_left
      · intro w'
        go_simp
        with_reducible rfl
      rotate_left
      · simp only [Act.put, List.setIfInBounds_toArray, List.set_cons_zero, List.set_cons_succ, i64_w, i32_w]
        rfl
      refine take_ (i := 16) (N := some 28) (v := ?_) (a' := ?_) #[true, true, true, true, false, true, true, true, true, true, true, true, true, true, true, true, true, false, false, false] rfl rfl (take_ofW HT_.out HW_.out (by kernel_rfl)) (fun _ _ _ h => h) (Or.inl ⟨by rfl, ?_⟩) hHeld ?_ ?_
      rotate_left
      · rintro w' ⟨s0, s1⟩
        go_simp
        with_reducible rfl
      rotate_left
      · simp only [Act.put, List.setIfInBounds_toArray, List.set_cons_zero, List.set_cons_succ, i64_w, i32_w]
        rfl
      refine pure_ (i := 17) (N := some 29) (v := ?_) (a' := ?_) #[true, true, true, true, false, true, true, true, true, true, true, true, true, true, true, true, true, true, false, false] rfl rfl (any_of HT_.out (by kernel_rfl)) (fun _ _ _ h => h) (Or.inl ⟨by rfl, ?_⟩) ?_ ?_
      rotate_left
      · intro w'
        go_simp
        with_reducible rfl
      rotate_left
      · simp only [Act.put, List.setIfInBounds_toArray, List.set_cons_zero, List.set_cons_succ, i64_w, i32_w]
        rfl
      refine pure_ (i := 18) (N := some 30) (v := ?_) (a' := ?_) #[true, true, true, true, false, true, true, true, true, true, true, true, true, true, true, true, true, true, true, false] rfl rfl (any_of HT_.out (by kernel_rfl)) (fun _ _ _ h => h) (Or.inl ⟨by rfl, ?_⟩) ?_ ?_
      rotate_left
      · intro w'
        go_simp
        with_reducible rfl
      rotate_left
      · simp only [Act.put, List.setIfInBounds_toArray, List.set_cons_zero, List.set_cons_succ, i64_w, i32_w]
        rfl
      refine one_ (i := 4) (N := some 16) #[true, true, true, true, true, true, true, true, true, true, true, true, true, true, true, true, true, true, true, false] rfl rfl (one_of HT_.out (by kernel_rfl)) (by decide) (fun K hK => ?_)
      refine goes_ Try.func28 (by kernel_rfl) rfl #[(.slice (some ad) n c0)] (by rfl) rfl rfl (by (try simp only [List.map_toArray, List.map_cons, List.map_nil]); first | done | rfl) ?_
      with_reducible refine (rsum_v _ (l0.take n) _ ?s0 ?s1).mono ?_
      (case s0 => exact ((HR0.out.take (by have := HN.out; omega)).mv (by repeat (first | exact HB.out | apply below_alloc | apply pw_below_drewN | apply below_drew1))).bv (by have := HC0.out; have := HN.out; simp only [List.length_take]; omega) (by have := HN.out; simp only [List.length_take]; omega))
      (case s1 => exact HBY.out.take n)
      rintro e w_28 ⟨rfl, rfl⟩
      refine ⟨_, rfl, ?_⟩
      rw [HSS.out]
      refine hK.out _ _ ⟨(Below.cell (B := w.heap.size) (w := w) (by repeat (first | exact HB.out | apply below_alloc | apply pw_below_drewN | apply below_drew1)) (World.block_lt_of_cell? w _ HY0.out)).trans HY0.out, (Below.cell (B := w.heap.size) (w := w) (by repeat (first | exact HB.out | apply below_alloc | apply pw_below_drewN | apply below_drew1)) (World.block_lt_of_cell? w _ HY1.out)).trans HY1.out⟩ (fun hHeld => ?_)
      clear hK K
      refine norm_ (a' := ?_) ?_ ?_
      rotate_left
      · show Act.put _ (some 16) _ = _
        simp only [Act.put, List.setIfInBounds_toArray, List.set_cons_zero, List.set_cons_succ, i64_w, i32_w]
        rfl
      refine pure_ (i := 19) (N := some 31) (v := ?_) (a' := ?_) #[true, true, true, true, true, true, true, true, true, true, true, true, true, true, true, true, true, true, true, true] rfl rfl (any_of HT_.out (by kernel_rfl)) (fun _ _ _ h => h) (Or.inl ⟨by rfl, ?_⟩) ?_ ?_
      rotate_left
      · intro w'
        go_simp
        with_reducible rfl
      rotate_left
      · simp only [Act.put, List.setIfInBounds_toArray, List.set_cons_zero, List.set_cons_succ, i64_w, i32_w]
        rfl
      refine done_ (done_of HT_.out (by kernel_rfl)) ?_

      go_wp2
      go_ret3
      exact ⟨_, rfl, BR.nil _ _, (by repeat (first | exact HB.out | apply below_alloc | apply pw_below_drewN | apply below_drew1))⟩

end Go.Proofs.Ytkgjmajabgpadaa
