import Derived.Test.YtkgjmajabgpadaaD0
namespace Go.Proofs.Ytkgjmajabgpadaa
set_option linter.unusedVariables false
set_option linter.unusedSimpArgs false
open Go.RowKit Go.Proofs.YtkgjmajabgpadaaW.PrintWords Go.Proofs.YtkgjmajabgpadaaW.PrintLast Go.Proofs.YtkgjmajabgpadaaW.PrintMore
set_option maxHeartbeats 8000000 in
set_option maxRecDepth 100000 in
theorem rread_v (v0 : Value) (l : List Int) (w : World) (h0 : BV w v0 l) (hlen : l.length < 140737488355328) :
    Calls Try.prog 41 #[v0] w fun e w' => ∃ g, e = .returned (.pointer (some ⟨g, 0, none⟩)) ∧ w.heap.size ≤ g ∧ Rb w' 85 g l 0 ∧ Below w.heap.size w w' := by
  have H0 := Aside0.mk h0
  have HL := Aside0.mk hlen
  clear h0 hlen
  go_enter Try.func41, Try.ntmps41
  go_wp2_with (first | (go_at_call 19; (with_reducible refine (copyBytes_v _ l _ ?s0 ?s1).mono ?_); (case s0 => exact H0.out); (case s1 => exact HL.out); rintro e w1 ⟨v, rfl, ho, hb⟩; have HO := Aside0.mk ho; have HB := Aside0.mk hb; clear ho hb; obtain ⟨A0, c0, e0, hc0, hr0⟩ := HO.out.reads; subst e0; have HC := Aside0.mk hc0; have HR := Aside0.mk hr0; clear hc0 hr0))
  go_ret
  exact ⟨_, rfl, HB.out.size, ⟨A0, c0, blk_new w1 _, HC.out, HR.out.alloc _⟩, below_alloc HB.out _⟩
set_option maxHeartbeats 8000000 in
set_option maxRecDepth 100000 in
theorem rfail_c (g : Nat) (l : List Int) (e0 x : Int) (w : World) (h0 : Rb w 85 g l e0) :
    Calls Try.prog 70 #[.pointer (some ⟨g, 0, none⟩), .int .i64 x] w fun e w' => e = .returned (.int .i64 0) ∧ Rb w' 85 g [] x ∧ Kp w w' g := by
  obtain ⟨A0, c0, hg, hc0, hr0⟩ := h0
  have HG := Aside0.mk hg
  have HR := Aside0.mk hr0
  have HC := Aside0.mk hc0
  have x0 := blk_cell hg 0
  have x1 := blk_cell hg 1
  have y0 := blk_frozen hg 0
  have y1 := blk_frozen hg 1
  have hm := hr0.max
  simp only [List.getElem?_toArray, List.getElem?_cons_zero, List.getElem?_cons_succ] at x0 x1
  clear hr0 hg hc0
  go_enter Try.func70, Try.ntmps70
  go_wp2
  go_ret
  exact ⟨rfl, ⟨none, 0, by simpa using blk_set (blk_set HG.out 1 (.int .i64 x)) 0 (.slice none 0 0), Nat.le_refl _, BC.nil _⟩, ((Kp.refl w g).set_ 1 _).set_ 0 _⟩
set_option maxHeartbeats 8000000 in
set_option maxRecDepth 100000 in
theorem rnum_c (g : Nat) (l : List Int) (e0 n : Int) (x : Int) (st : List Int × Int) (w : World) (h0 : Rb w 85 g l e0) (hb : bytesP l) (hs : rNum l e0 n = (x, st)) :
    Calls Try.prog 43 #[.pointer (some ⟨g, 0, none⟩), .int .i64 n] w fun e w' => e = .returned (.int .i64 x) ∧ Rb w' 85 g st.1 st.2 ∧ Kp w w' g := by
  have H0 := Aside0.mk h0
  have HBL := Aside0.mk hb
  have HS0 := Aside0.mk hs
  obtain ⟨A0, c0, hg, hc0, hr0⟩ := h0
  have HG := Aside0.mk hg
  have HR := Aside0.mk hr0
  have HC := Aside0.mk hc0
  have x0 := blk_cell hg 0
  have x1 := blk_cell hg 1
  have y0 := blk_frozen hg 0
  have y1 := blk_frozen hg 1
  have hm := hr0.max
  simp only [List.getElem?_toArray, List.getElem?_cons_zero, List.getElem?_cons_succ] at x0 x1
  clear hr0 hs hg hb
  by_cases he : e0 = 0
  · subst he
    by_cases hz : n = 1 ∨ n = 2 ∨ n = 4
    · rcases hz with rfl | rfl | rfl
      · by_cases hl : l.length < 1
        · have z : decide ((l.length : Int) < 1) = true := decide_eq_true (by omega)
          have z2 : decide (l.length < 1) = true := decide_eq_true hl
          have hv : rNum l 0 1 = (0, [], 3) := by unfold rNum; rw [if_neg (by simp), if_neg (by decide), if_pos (by omega)]
          obtain ⟨rfl, hv2⟩ := Prod.mk.inj (hv.symm.trans HS0.out)
          subst hv2
          clear hv hl
          go_enter Try.func43, Try.ntmps43
          go_wp2_with (first | (go_at_call 70; (with_reducible refine (rfail_c g l 0 3 _ ?s0).mono ?_); (case s0 => exact H0.out); rintro e w1 ⟨rfl, hr, hk⟩; have HRB := Aside0.mk hr; have HK := Aside0.mk hk; clear hr hk))
          go_ret
          exact ⟨rfl, HRB.out, HK.out⟩
        · have z : decide ((l.length : Int) < 1) = false := decide_eq_false (by omega)
          have z2 : decide (l.length < 1) = false := decide_eq_false hl
          have hv : rNum l 0 1 = (((be (l.take 1) : Nat) : Int), l.drop 1, 0) := by unfold rNum; rw [if_neg (by simp), if_neg (by decide), if_neg (by omega)]; rfl
          obtain ⟨hx, hv2⟩ := Prod.mk.inj (hv.symm.trans HS0.out)
          subst hv2
          obtain ⟨A', hf, hd⟩ := from_run A0 l c0 1 (by omega) HC.out
          have hf' : ∀ W : World, (Instr.slice 22 (.slice A0 l.length c0) (some (.int .i64 1)) none none).run Try.prog W = .ok (.slice A' (l.length - 1) (c0 - 1)) W := hf
          have HD := Aside0.mk hd
          have HSL := Aside0.mk (show 1 ≤ l.length by omega)
          have HX := Aside0.mk hx
          have HB4 := Aside0.mk (beFrom_lt HBL.out)
          have hl2 : 1 ≤ l.length := by omega
          clear hv hd hl hx hc0 hf
          go_enter Try.func43, Try.ntmps43
          go_wp2
          go_loopg [5, 6] 1 (fun k v4 v31 w' => ∃ i : Nat, i + k = 1 ∧ v31 = .int .i64 i ∧ v4 = .int .i64 (beFrom 0 (l.take i) : Nat) ∧ Aside0 (w = w'))
          case atStart => exact ⟨0, by omega, rfl, rfl, ⟨rfl⟩⟩
          case round =>
            obtain ⟨i, hi, rfl, rfl, HW⟩ := hrel
            obtain rfl := HW.out
            have hs := beFrom_take 0 l i
            have hx := HBL.out.at_ i
            have hlt : beFrom 0 (l.take i) < 4294967296 := by
              have := HB4.out i (by omega); have : 256 ^ i ≤ 256 ^ 4 := Nat.pow_le_pow_right (by omega) (by omega); omega
            obtain ⟨m, hm'⟩ : ∃ m, beFrom 0 (l.take i) = m := ⟨_, rfl⟩
            rw [hm'] at hs hlt
            rw [hm']
            have HS := Aside0.mk hs
            have HM := Aside0.mk hm'
            clear hs hm'
            by_cases h8 : i < 1
            · obtain ⟨g', rfl⟩ : ∃ g', gk = g' + 1 := ⟨gk - 1, by omega⟩
              obtain ⟨ad, e1, hc⟩ := HR.out.atN i (by omega)
              subst e1
              obtain ⟨c, hcx⟩ : ∃ c : Nat, l.getD i 0 = (c : Int) := ⟨(l.getD i 0).toNat, by omega⟩
              rw [hcx] at hc hx
              have HCC := Aside0.mk hcx
              have hlc : c < 256 := by omega
              clear hcx hx
              have q1 : (i : Int) < (l.length : Int) := by omega
              replace q1 := eq_true q1
              go_wp2
              go_roundg g'
              case measure => omega
              case rel => exact ⟨i + 1, by omega, by go_num, by rw [HS.out (by omega), HCC.out]; go_num, ⟨rfl⟩⟩
            · have e : i = 1 := by omega
              subst e
              have HN' := Aside0.mk (show ((be (l.take 1) : Nat) : Int) = (m : Int) by rw [← HM.out]; rfl)
              clear HM HS
              go_wp2
              go_ret
              have hK : Kp w (w.setCell ⟨g, 0, none⟩ (.slice A' (l.length - 1) (c0 - 1))) g := (Kp.refl w g).set_ 0 _
              rw [← List.drop_one]
              refine ⟨by rw [← HX.out, HN'.out]; rfl, ⟨A', c0 - 1, ?_, by have := HC.out; simp only [List.length_drop]; omega, (HD.out w HR.out).kp HG.out hK⟩, hK⟩
              rw [List.length_drop]
              simpa using blk_set HG.out 0 (.slice A' (l.length - 1) (c0 - 1))

      · by_cases hl : l.length < 2
        · have z : decide ((l.length : Int) < 2) = true := decide_eq_true (by omega)
          have z2 : decide (l.length < 2) = true := decide_eq_true hl
          have hv : rNum l 0 2 = (0, [], 3) := by unfold rNum; rw [if_neg (by simp), if_neg (by decide), if_pos (by omega)]
          obtain ⟨rfl, hv2⟩ := Prod.mk.inj (hv.symm.trans HS0.out)
          subst hv2
          clear hv hl
          go_enter Try.func43, Try.ntmps43
          go_wp2_with (first | (go_at_call 70; (with_reducible refine (rfail_c g l 0 3 _ ?s0).mono ?_); (case s0 => exact H0.out); rintro e w1 ⟨rfl, hr, hk⟩; have HRB := Aside0.mk hr; have HK := Aside0.mk hk; clear hr hk))
          go_ret
          exact ⟨rfl, HRB.out, HK.out⟩
        · have z : decide ((l.length : Int) < 2) = false := decide_eq_false (by omega)
          have z2 : decide (l.length < 2) = false := decide_eq_false hl
          have hv : rNum l 0 2 = (((be (l.take 2) : Nat) : Int), l.drop 2, 0) := by unfold rNum; rw [if_neg (by simp), if_neg (by decide), if_neg (by omega)]; rfl
          obtain ⟨hx, hv2⟩ := Prod.mk.inj (hv.symm.trans HS0.out)
          subst hv2
          obtain ⟨A', hf, hd⟩ := from_run A0 l c0 2 (by omega) HC.out
          have hf' : ∀ W : World, (Instr.slice 22 (.slice A0 l.length c0) (some (.int .i64 2)) none none).run Try.prog W = .ok (.slice A' (l.length - 2) (c0 - 2)) W := hf
          have HD := Aside0.mk hd
          have HSL := Aside0.mk (show 2 ≤ l.length by omega)
          have HX := Aside0.mk hx
          have HB4 := Aside0.mk (beFrom_lt HBL.out)
          have hl2 : 2 ≤ l.length := by omega
          clear hv hd hl hx hc0 hf
          go_enter Try.func43, Try.ntmps43
          go_wp2
          go_loopg [5, 6] 2 (fun k v4 v31 w' => ∃ i : Nat, i + k = 2 ∧ v31 = .int .i64 i ∧ v4 = .int .i64 (beFrom 0 (l.take i) : Nat) ∧ Aside0 (w = w'))
          case atStart => exact ⟨0, by omega, rfl, rfl, ⟨rfl⟩⟩
          case round =>
            obtain ⟨i, hi, rfl, rfl, HW⟩ := hrel
            obtain rfl := HW.out
            have hs := beFrom_take 0 l i
            have hx := HBL.out.at_ i
            have hlt : beFrom 0 (l.take i) < 4294967296 := by
              have := HB4.out i (by omega); have : 256 ^ i ≤ 256 ^ 4 := Nat.pow_le_pow_right (by omega) (by omega); omega
            obtain ⟨m, hm'⟩ : ∃ m, beFrom 0 (l.take i) = m := ⟨_, rfl⟩
            rw [hm'] at hs hlt
            rw [hm']
            have HS := Aside0.mk hs
            have HM := Aside0.mk hm'
            clear hs hm'
            by_cases h8 : i < 2
            · obtain ⟨g', rfl⟩ : ∃ g', gk = g' + 1 := ⟨gk - 1, by omega⟩
              obtain ⟨ad, e1, hc⟩ := HR.out.atN i (by omega)
              subst e1
              obtain ⟨c, hcx⟩ : ∃ c : Nat, l.getD i 0 = (c : Int) := ⟨(l.getD i 0).toNat, by omega⟩
              rw [hcx] at hc hx
              have HCC := Aside0.mk hcx
              have hlc : c < 256 := by omega
              clear hcx hx
              have q1 : (i : Int) < (l.length : Int) := by omega
              replace q1 := eq_true q1
              go_wp2
              go_roundg g'
              case measure => omega
              case rel => exact ⟨i + 1, by omega, by go_num, by rw [HS.out (by omega), HCC.out]; go_num, ⟨rfl⟩⟩
            · have e : i = 2 := by omega
              subst e
              have HN' := Aside0.mk (show ((be (l.take 2) : Nat) : Int) = (m : Int) by rw [← HM.out]; rfl)
              clear HM HS
              go_wp2
              go_ret
              have hK : Kp w (w.setCell ⟨g, 0, none⟩ (.slice A' (l.length - 2) (c0 - 2))) g := (Kp.refl w g).set_ 0 _
              refine ⟨by rw [← HX.out, HN'.out]; rfl, ⟨A', c0 - 2, ?_, by have := HC.out; simp only [List.length_drop]; omega, (HD.out w HR.out).kp HG.out hK⟩, hK⟩
              rw [List.length_drop]
              simpa using blk_set HG.out 0 (.slice A' (l.length - 2) (c0 - 2))

      · by_cases hl : l.length < 4
        · have z : decide ((l.length : Int) < 4) = true := decide_eq_true (by omega)
          have z2 : decide (l.length < 4) = true := decide_eq_true hl
          have hv : rNum l 0 4 = (0, [], 3) := by unfold rNum; rw [if_neg (by simp), if_neg (by decide), if_pos (by omega)]
          obtain ⟨rfl, hv2⟩ := Prod.mk.inj (hv.symm.trans HS0.out)
          subst hv2
          clear hv hl
          go_enter Try.func43, Try.ntmps43
          go_wp2_with (first | (go_at_call 70; (with_reducible refine (rfail_c g l 0 3 _ ?s0).mono ?_); (case s0 => exact H0.out); rintro e w1 ⟨rfl, hr, hk⟩; have HRB := Aside0.mk hr; have HK := Aside0.mk hk; clear hr hk))
          go_ret
          exact ⟨rfl, HRB.out, HK.out⟩
        · have z : decide ((l.length : Int) < 4) = false := decide_eq_false (by omega)
          have z2 : decide (l.length < 4) = false := decide_eq_false hl
          have hv : rNum l 0 4 = (((be (l.take 4) : Nat) : Int), l.drop 4, 0) := by unfold rNum; rw [if_neg (by simp), if_neg (by decide), if_neg (by omega)]; rfl
          obtain ⟨hx, hv2⟩ := Prod.mk.inj (hv.symm.trans HS0.out)
          subst hv2
          obtain ⟨A', hf, hd⟩ := from_run A0 l c0 4 (by omega) HC.out
          have hf' : ∀ W : World, (Instr.slice 22 (.slice A0 l.length c0) (some (.int .i64 4)) none none).run Try.prog W = .ok (.slice A' (l.length - 4) (c0 - 4)) W := hf
          have HD := Aside0.mk hd
          have HSL := Aside0.mk (show 4 ≤ l.length by omega)
          have HX := Aside0.mk hx
          have HB4 := Aside0.mk (beFrom_lt HBL.out)
          have hl2 : 4 ≤ l.length := by omega
          clear hv hd hl hx hc0 hf
          go_enter Try.func43, Try.ntmps43
          go_wp2
          go_loopg [5, 6] 4 (fun k v4 v31 w' => ∃ i : Nat, i + k = 4 ∧ v31 = .int .i64 i ∧ v4 = .int .i64 (beFrom 0 (l.take i) : Nat) ∧ Aside0 (w = w'))
          case atStart => exact ⟨0, by omega, rfl, rfl, ⟨rfl⟩⟩
          case round =>
            obtain ⟨i, hi, rfl, rfl, HW⟩ := hrel
            obtain rfl := HW.out
            have hs := beFrom_take 0 l i
            have hx := HBL.out.at_ i
            have hlt : beFrom 0 (l.take i) < 4294967296 := by
              have := HB4.out i (by omega); have : 256 ^ i ≤ 256 ^ 4 := Nat.pow_le_pow_right (by omega) (by omega); omega
            obtain ⟨m, hm'⟩ : ∃ m, beFrom 0 (l.take i) = m := ⟨_, rfl⟩
            rw [hm'] at hs hlt
            rw [hm']
            have HS := Aside0.mk hs
            have HM := Aside0.mk hm'
            clear hs hm'
            by_cases h8 : i < 4
            · obtain ⟨g', rfl⟩ : ∃ g', gk = g' + 1 := ⟨gk - 1, by omega⟩
              obtain ⟨ad, e1, hc⟩ := HR.out.atN i (by omega)
              subst e1
              obtain ⟨c, hcx⟩ : ∃ c : Nat, l.getD i 0 = (c : Int) := ⟨(l.getD i 0).toNat, by omega⟩
              rw [hcx] at hc hx
              have HCC := Aside0.mk hcx
              have hlc : c < 256 := by omega
              clear hcx hx
              have q1 : (i : Int) < (l.length : Int) := by omega
              replace q1 := eq_true q1
              go_wp2
              go_roundg g'
              case measure => omega
              case rel => exact ⟨i + 1, by omega, by go_num, by rw [HS.out (by omega), HCC.out]; go_num, ⟨rfl⟩⟩
            · have e : i = 4 := by omega
              subst e
              have HN' := Aside0.mk (show ((be (l.take 4) : Nat) : Int) = (m : Int) by rw [← HM.out]; rfl)
              clear HM HS
              go_wp2
              go_ret
              have hK : Kp w (w.setCell ⟨g, 0, none⟩ (.slice A' (l.length - 4) (c0 - 4))) g := (Kp.refl w g).set_ 0 _
              refine ⟨by rw [← HX.out, HN'.out]; rfl, ⟨A', c0 - 4, ?_, by have := HC.out; simp only [List.length_drop]; omega, (HD.out w HR.out).kp HG.out hK⟩, hK⟩
              rw [List.length_drop]
              simpa using blk_set HG.out 0 (.slice A' (l.length - 4) (c0 - 4))

    · have h1 : (n != 1) = true := bne_iff_ne.mpr (by omega)
      have h2 : (n != 2) = true := bne_iff_ne.mpr (by omega)
      have h3 : (n != 4) = true := bne_iff_ne.mpr (by omega)
      have hv : rNum l 0 n = (0, [], 2) := by unfold rNum; rw [if_neg (by simp), if_pos hz]
      obtain ⟨rfl, hv2⟩ := Prod.mk.inj (hv.symm.trans HS0.out)
      subst hv2
      clear hv hz
      go_enter Try.func43, Try.ntmps43
      go_wp2_with (first | (go_at_call 70; (with_reducible refine (rfail_c g l 0 2 _ ?s0).mono ?_); (case s0 => exact H0.out); rintro e w1 ⟨rfl, hr, hk⟩; have HRB := Aside0.mk hr; have HK := Aside0.mk hk; clear hr hk))
      go_ret
      exact ⟨rfl, HRB.out, HK.out⟩
  · have z : (e0 != 0) = true := bne_iff_ne.mpr he
    have hv : rNum l e0 n = (0, l, e0) := by unfold rNum; rw [if_pos he]
    obtain ⟨rfl, hv2⟩ := Prod.mk.inj (hv.symm.trans HS0.out)
    subst hv2
    clear hv
    go_enter Try.func43, Try.ntmps43
    go_wp2
    go_ret
    exact ⟨rfl, ⟨A0, c0, HG.out, HC.out, HR.out⟩, Kp.refl _ _⟩
set_option maxHeartbeats 8000000 in
set_option maxRecDepth 100000 in
theorem rleft_c (g : Nat) (l : List Int) (e0 : Int) (w : World) (h0 : Rb w 85 g l e0) :
    Calls Try.prog 47 #[.pointer (some ⟨g, 0, none⟩)] w fun e w' => e = .returned (.int .i64 l.length) ∧ w = w' := by
  obtain ⟨A0, c0, hg, hc0, hr0⟩ := h0
  have HG := Aside0.mk hg
  have HR := Aside0.mk hr0
  have HC := Aside0.mk hc0
  have x0 := blk_cell hg 0
  have x1 := blk_cell hg 1
  have y0 := blk_frozen hg 0
  have y1 := blk_frozen hg 1
  have hm := hr0.max
  simp only [List.getElem?_toArray, List.getElem?_cons_zero, List.getElem?_cons_succ] at x0 x1
  clear hg hr0
  go_enter Try.func47, Try.ntmps47
  go_wp2
  go_ret
  exact ⟨rfl, rfl⟩
set_option maxHeartbeats 8000000 in
set_option maxRecDepth 100000 in
theorem rerr_c (g : Nat) (l : List Int) (e0 : Int) (w : World) (h0 : Rb w 85 g l e0) :
    Calls Try.prog 49 #[.pointer (some ⟨g, 0, none⟩)] w fun e w' => e = .returned (.int .i64 e0) ∧ w = w' := by
  obtain ⟨A0, c0, hg, hc0, hr0⟩ := h0
  have HG := Aside0.mk hg
  have HR := Aside0.mk hr0
  have HC := Aside0.mk hc0
  have x0 := blk_cell hg 0
  have x1 := blk_cell hg 1
  have y0 := blk_frozen hg 0
  have y1 := blk_frozen hg 1
  have hm := hr0.max
  simp only [List.getElem?_toArray, List.getElem?_cons_zero, List.getElem?_cons_succ] at x0 x1
  clear hg hr0
  go_enter Try.func49, Try.ntmps49
  go_wp2
  go_ret
  exact ⟨rfl, rfl⟩
set_option maxHeartbeats 8000000 in
set_option maxRecDepth 100000 in
theorem rend_c (g : Nat) (l : List Int) (e0 : Int) (x : Int) (w : World) (h0 : Rb w 85 g l e0) (hx : rEnd l e0 = x) :
    Calls Try.prog 51 #[.pointer (some ⟨g, 0, none⟩)] w fun e w' => e = .returned (.int .i64 x) ∧ w = w' := by
  have HX := Aside0.mk hx
  clear hx
  obtain ⟨A0, c0, hg, hc0, hr0⟩ := h0
  have HG := Aside0.mk hg
  have HR := Aside0.mk hr0
  have HC := Aside0.mk hc0
  have x0 := blk_cell hg 0
  have x1 := blk_cell hg 1
  have y0 := blk_frozen hg 0
  have y1 := blk_frozen hg 1
  have hm := hr0.max
  simp only [List.getElem?_toArray, List.getElem?_cons_zero, List.getElem?_cons_succ] at x0 x1
  clear hg hr0
  by_cases he : e0 = 0
  · subst he
    by_cases hl : 0 < l.length
    · have z : decide ((0 : Int) < (l.length : Int)) = true := decide_eq_true (by omega)
      have z2 : decide (0 < l.length) = true := decide_eq_true (by omega)
      obtain rfl : 4 = x := by rw [← HX.out]; unfold rEnd; rw [if_pos ⟨rfl, hl⟩]
      go_enter Try.func51, Try.ntmps51
      go_wp2
      go_ret
      exact ⟨rfl, rfl⟩
    · have z : decide ((0 : Int) < (l.length : Int)) = false := decide_eq_false (by omega)
      have z2 : decide (0 < l.length) = false := decide_eq_false (by omega)
      obtain rfl : 0 = x := by rw [← HX.out]; unfold rEnd; rw [if_neg (fun h => hl h.2)]
      go_enter Try.func51, Try.ntmps51
      go_wp2
      go_ret
      exact ⟨rfl, rfl⟩
  · have z : (e0 == 0) = false := beq_eq_false_iff_ne.mpr he
    obtain rfl : e0 = x := by rw [← HX.out]; unfold rEnd; rw [if_neg (fun h => he h.1)]
    go_enter Try.func51, Try.ntmps51
    go_wp2
    go_ret
    exact ⟨rfl, rfl⟩
set_option maxHeartbeats 8000000 in
set_option maxRecDepth 100000 in
theorem rtext_c (g : Nat) (l : List Int) (e0 : Int) (r l' : List Int) (e' : Int) (w : World) (h0 : Rb w 85 g l e0) (hb : bytesP l) (hlen : l.length < 140737488355328) (hs : rText l e0 = (r, l', e')) :
    Calls Try.prog 45 #[.pointer (some ⟨g, 0, none⟩)] w fun e w' => ∃ v, e = .returned v ∧ BR w' w.heap.size v r ∧ Rb w' 85 g l' e' ∧ Kp w w' g := by
  have H0 := Aside0.mk h0
  have HBL := Aside0.mk hb
  obtain ⟨n, l1, e1, hn⟩ : ∃ n l1 e1, rNum l e0 2 = (n, l1, e1) := ⟨_, _, _, rfl⟩
  have HN := Aside0.mk hn
  have HR := Aside0.mk (show 0 ≤ n by have := (rNum_range (e := e0) (n := 2) hb).1; rw [hn] at this; exact this)
  have HT := Aside0.mk (show rTake l1 e1 n = (r, l', e') by rw [← hs]; unfold rText; rw [hn])
  have HLL := Aside0.mk (show l1.length < 140737488355328 by
    have h1 : l1.length ≤ l.length := by
      have : l1 = (rNum l e0 2).2.1 := by rw [hn]
      rw [this]
      unfold rNum
      split
      · exact Nat.le_refl _
      split
      · simp
      split
      · simp
      · simp
    omega)
  clear h0 hb hn hs hlen
  by_cases he : e1 = 0
  · subst he
    by_cases hl : (l1.length : Int) < n
    · have hv : rTake l1 0 n = ([], [], 3) := by unfold rTake; rw [if_neg (by simp), if_pos hl]
      obtain ⟨rfl, hv2⟩ := Prod.mk.inj (hv.symm.trans HT.out)
      obtain ⟨rfl, rfl⟩ := Prod.mk.inj hv2
      have z : decide ((l1.length : Int) < n) = true := decide_eq_true hl
      clear hv hv2
      go_enter Try.func45, Try.ntmps45
      go_wp2_with (first | (go_at_call 43; (with_reducible refine (rnum_c g l e0 2 n (l1, 0) _ ?s0 ?s1 ?s2).mono ?_); (case s0 => exact H0.out); (case s1 => exact HBL.out); (case s2 => exact HN.out); rintro e w1 ⟨rfl, hr, hk⟩; have H1 := Aside0.mk hr; have HK1 := Aside0.mk hk; obtain ⟨A1, c1, hg1, hc1, hr1⟩ := hr; have x0 := blk_cell hg1 0; have x1 := blk_cell hg1 1; have y0 := blk_frozen hg1 0; have y1 := blk_frozen hg1 1; have hm1 := hr1.max; simp only [List.getElem?_toArray, List.getElem?_cons_zero, List.getElem?_cons_succ] at x0 x1; have HR1 := Aside0.mk hr1; have HC1 := Aside0.mk hc1; have HG1 := Aside0.mk hg1;  clear hr1 hk hg1 hc1) | (go_at_call 70; (with_reducible refine (rfail_c g l1 0 3 _ ?s0).mono ?_); (case s0 => exact H1.out); rintro e w2 ⟨rfl, hr, hk⟩; have H2 := Aside0.mk hr; have HK2 := Aside0.mk (HK1.out.trans hk); clear hr hk))
      go_ret
      exact ⟨_, rfl, BR.nil _ _, H2.out, HK2.out⟩
    · obtain ⟨k, rfl⟩ := Int.eq_ofNat_of_zero_le HR.out
      have hkl : k ≤ l1.length := by omega
      have hv : rTake l1 0 (k : Int) = (l1.take k, l1.drop k, 0) := by unfold rTake; rw [if_neg (by simp), if_neg hl, Int.toNat_natCast]
      obtain ⟨rfl, hv2⟩ := Prod.mk.inj (hv.symm.trans HT.out)
      obtain ⟨rfl, rfl⟩ := Prod.mk.inj hv2
      have z : decide ((l1.length : Int) < (k : Int)) = false := decide_eq_false hl
      have z2 : decide (l1.length < k) = false := decide_eq_false (by omega)
      have HKL := Aside0.mk hkl
      clear hv hv2 hl
      go_enter Try.func45, Try.ntmps45
      go_wp2_with (first | (go_at_call 43; (with_reducible refine (rnum_c g l e0 2 (k : Int) (l1, 0) _ ?s0 ?s1 ?s2).mono ?_); (case s0 => exact H0.out); (case s1 => exact HBL.out); (case s2 => exact HN.out); rintro e w1 ⟨rfl, hr, hk⟩; have H1 := Aside0.mk hr; have HK1 := Aside0.mk hk; obtain ⟨A1, c1, hg1, hc1, hr1⟩ := hr; have x0 := blk_cell hg1 0; have x1 := blk_cell hg1 1; have y0 := blk_frozen hg1 0; have y1 := blk_frozen hg1 1; have hm1 := hr1.max; simp only [List.getElem?_toArray, List.getElem?_cons_zero, List.getElem?_cons_succ] at x0 x1; have HR1 := Aside0.mk hr1; have HC1 := Aside0.mk hc1; have HG1 := Aside0.mk hg1; obtain ⟨A', hf, hd⟩ := from_run A1 l1 c1 k HKL.out hc1; have ht := to_run A1 l1 c1 k HKL.out hc1; have HD := Aside0.mk hd; clear hd; clear hr1 hk hg1 hc1) | (go_at_call 19; (with_reducible refine (copyBytes_v _ (l1.take k) _ ?s0 ?s1).mono ?_); (case s0 => exact (HR1.out.take HKL.out).bv (by have := HC1.out; have := HKL.out; simp only [List.length_take]; omega) (by have := HKL.out; simp only [List.length_take]; omega)); (case s1 => have := HLL.out; simp only [List.length_take]; omega); rintro e w2 ⟨v, rfl, ho, hb⟩; have hg2 := (hb.block g (blk_lt HG1.out)).trans HG1.out; have x0' := blk_cell hg2 0; have y0' := blk_frozen hg2 0; simp only [List.getElem?_toArray, List.getElem?_cons_zero] at x0'; have HG2 := Aside0.mk hg2; have HR2 := Aside0.mk (HR1.out.mv hb); have HOG := Aside0.mk (show ∀ b, v.ownBlock = some b → b ≠ g from fun b hb' => by have := ho.block_ge b hb'; have := H1.out.lt; omega); have HO := Aside0.mk (ho.lower HK1.out.size); have HK2 := Aside0.mk (HK1.out.trans (Kp.of_below hb g)); clear ho hb hg2))
      go_ret
      have hK : Kp w2 (w2.setCell ⟨g, 0, none⟩ (.slice A' (l1.length - k) (c1 - k))) g := (Kp.refl w2 g).set_ 0 _
      refine ⟨v, rfl, HO.out.kp hK HOG.out, ⟨A', c1 - k, ?_, by have := HC1.out; simp only [List.length_drop]; omega, (HD.out w2 HR2.out).kp HG2.out hK⟩, HK2.out.trans hK⟩
      rw [List.length_drop]
      simpa using blk_set HG2.out 0 (.slice A' (l1.length - k) (c1 - k))
  · have z : (e1 != 0) = true := bne_iff_ne.mpr he
    have hv : rTake l1 e1 n = ([], l1, e1) := by unfold rTake; rw [if_pos he]
    obtain ⟨rfl, hv2⟩ := Prod.mk.inj (hv.symm.trans HT.out)
    obtain ⟨rfl, rfl⟩ := Prod.mk.inj hv2
    clear hv hv2
    go_enter Try.func45, Try.ntmps45
    go_wp2_with (first | (go_at_call 43; (with_reducible refine (rnum_c g l e0 2 n (l1, e1) _ ?s0 ?s1 ?s2).mono ?_); (case s0 => exact H0.out); (case s1 => exact HBL.out); (case s2 => exact HN.out); rintro e w1 ⟨rfl, hr, hk⟩; have H1 := Aside0.mk hr; have HK1 := Aside0.mk hk; obtain ⟨A1, c1, hg1, hc1, hr1⟩ := hr; have x0 := blk_cell hg1 0; have x1 := blk_cell hg1 1; have y0 := blk_frozen hg1 0; have y1 := blk_frozen hg1 1; have hm1 := hr1.max; simp only [List.getElem?_toArray, List.getElem?_cons_zero, List.getElem?_cons_succ] at x0 x1; have HR1 := Aside0.mk hr1; have HC1 := Aside0.mk hc1; have HG1 := Aside0.mk hg1;  clear hr1 hk hg1 hc1))
    go_ret
    exact ⟨_, rfl, BR.nil _ _, H1.out, HK1.out⟩

end Go.Proofs.Ytkgjmajabgpadaa
