import Derived.Test.YtkgjmajabgpadaaC0
import Derived.Test.YtkgjmajabgpadaaS3
namespace Go.Proofs.Ytkgjmajabgpadaa
set_option linter.unusedVariables false
set_option linter.unusedSimpArgs false
open Go.RowKit Go.Proofs.YtkgjmajabgpadaaW.PrintWords Go.Proofs.YtkgjmajabgpadaaW.PrintLast Go.Proofs.YtkgjmajabgpadaaW.PrintMore
set_option maxHeartbeats 8000000 in
set_option maxRecDepth 100000 in
theorem oread_v (v0 : Value) (l : List Int) (w : World) (h0 : BV w v0 l) :
    Calls Try.prog 40 #[v0] w fun e w' => ∃ g, e = .returned (.pointer (some ⟨g, 0, none⟩)) ∧ g = w.heap.size ∧ Rb w' 60 g l 0 ∧ Below w.heap.size w w' := by
  obtain ⟨A0, c0, rfl, hc0, hr0⟩ := h0
  have HR := Aside0.mk hr0
  have HC := Aside0.mk hc0
  clear hr0 hc0
  have HB := Aside0.mk (Below.refl w.heap.size w)
  go_enter Try.func40, Try.ntmps40
  go_wp2
  go_ret
  exact ⟨_, rfl, rfl, ⟨A0, c0, blk_new w _, HC.out, HR.out.alloc _⟩, below_alloc HB.out _⟩
set_option maxHeartbeats 8000000 in
set_option maxRecDepth 100000 in
theorem otake_c (g : Nat) (l : List Int) (e0 n : Int) (r l' : List Int) (e' : Int) (w : World) (h0 : Rb w 60 g l e0) (hn : e0 = 0 → 0 ≤ n) (hs : rTake l e0 n = (r, l', e')) :
    Calls Try.prog 69 #[.pointer (some ⟨g, 0, none⟩), .int .i64 n] w fun e w' => ∃ v, e = .returned v ∧ BV w' v r ∧ Rb w' 60 g l' e' ∧ Kp w w' g := by
  obtain ⟨A0, c0, hg, hc0, hr0⟩ := h0
  have HG := Aside0.mk hg
  have HR := Aside0.mk hr0
  have HC := Aside0.mk hc0
  have HS := Aside0.mk hs
  have x0 := blk_cell hg 0
  have x1 := blk_cell hg 1
  have y0 := blk_frozen hg 0
  have y1 := blk_frozen hg 1
  have hm := hr0.max
  simp only [List.getElem?_toArray, List.getElem?_cons_zero, List.getElem?_cons_succ] at x0 x1
  clear hr0 hs hg
  by_cases he : e0 = 0
  · subst he
    have hn0 := hn rfl
    by_cases hl : (l.length : Int) < n
    · have z : decide ((l.length : Int) < n) = true := decide_eq_true hl
      have hv : rTake l 0 n = ([], [], 3) := by unfold rTake; rw [if_neg (by simp), if_pos hl]
      obtain ⟨rfl, hv2⟩ := Prod.mk.inj (hv.symm.trans HS.out)
      obtain ⟨rfl, rfl⟩ := Prod.mk.inj hv2
      clear hv hv2 hn
      go_enter Try.func69, Try.ntmps69
      go_wp2
      go_ret
      exact ⟨_, rfl, BV.nil _, ⟨none, 0, by simpa using blk_set (blk_set HG.out 0 (.slice none 0 0)) 1 (.int .i64 3), Nat.le_refl _, BC.nil _⟩, ((Kp.refl w g).set_ 0 _).set_ 1 _⟩
    · have z : decide ((l.length : Int) < n) = false := decide_eq_false hl
      obtain ⟨k, rfl⟩ := Int.eq_ofNat_of_zero_le hn0
      have hv : rTake l 0 (k : Int) = (l.take k, l.drop k, 0) := by unfold rTake; rw [if_neg (by simp), if_neg hl, Int.toNat_natCast]
      obtain ⟨rfl, hv2⟩ := Prod.mk.inj (hv.symm.trans HS.out)
      obtain ⟨rfl, rfl⟩ := Prod.mk.inj hv2
      clear hv hv2 hn hn0
      have z2 : decide (l.length < k) = false := decide_eq_false (by omega)
      obtain ⟨A', hf, hd⟩ := from_run A0 l c0 k (by omega) HC.out
      have ht := to_run A0 l c0 k (by omega) HC.out
      have HD := Aside0.mk hd
      have HK := Aside0.mk (show k ≤ l.length by omega)
      clear hd hl hc0
      go_enter Try.func69, Try.ntmps69
      go_wp2
      go_ret
      have hK : Kp w (w.setCell ⟨g, 0, none⟩ (.slice A' (l.length - k) (c0 - k))) g := (Kp.refl w g).set_ 0 _
      have hl : (l.take k).length = k := by rw [List.length_take]; have := HK.out; omega
      have hl2 : (l.drop k).length = l.length - k := List.length_drop
      refine ⟨_, rfl, (((HR.out.take HK.out).kp HG.out hK).bv (by have := HK.out; have := HC.out; omega) hl), ⟨A', c0 - k, ?_, by have := HC.out; omega, (HD.out w HR.out).kp HG.out hK⟩, hK⟩
      rw [hl2]
      simpa using blk_set HG.out 0 (.slice A' (l.length - k) (c0 - k))
  · have z : (e0 != 0) = true := bne_iff_ne.mpr he
    have hv : rTake l e0 n = ([], l, e0) := by unfold rTake; rw [if_pos he]
    obtain ⟨rfl, hv2⟩ := Prod.mk.inj (hv.symm.trans HS.out)
    obtain ⟨rfl, rfl⟩ := Prod.mk.inj hv2
    clear hv hv2 hn
    go_enter Try.func69, Try.ntmps69
    go_wp2
    go_ret
    exact ⟨_, rfl, BV.nil _, ⟨A0, c0, HG.out, HC.out, HR.out⟩, Kp.refl _ _⟩
set_option maxHeartbeats 8000000 in
set_option maxRecDepth 100000 in
theorem onum_c (g : Nat) (l : List Int) (e0 n : Int) (x : Int) (st : List Int × Int) (w : World) (h0 : Rb w 60 g l e0) (hb : bytesP l) (hs : rNum l e0 n = (x, st)) :
    Calls Try.prog 42 #[.pointer (some ⟨g, 0, none⟩), .int .i64 n] w fun e w' => e = .returned (.int .i64 x) ∧ Rb w' 60 g st.1 st.2 ∧ Kp w w' g := by
  have HB0 := Aside0.mk h0
  have HBL := Aside0.mk hb
  have HS0 := Aside0.mk hs
  obtain ⟨A0, c0, hg, hc0, hr0⟩ := h0
  have HG := Aside0.mk hg
  have HR := Aside0.mk hr0
  have HC := Aside0.mk hc0
  have x0 := blk_cell hg 0
  have x1 := blk_cell hg 1
  have y0 := blk_frozen hg 0
  have y1 := blk_frozen hg 1
  simp only [List.getElem?_toArray, List.getElem?_cons_zero, List.getElem?_cons_succ] at x0 x1
  clear hr0 hs hg hb
  by_cases he : e0 = 0
  · subst he
    by_cases hz : n = 1 ∨ n = 2 ∨ n = 4
    · have hd : decide (n = 1 ∨ n = 2 ∨ n = 4) = true := decide_eq_true hz
      obtain ⟨r, l', e', hT, hF, hLEN, hBY⟩ := rNum_take (l := l) hz HBL.out
      have HT := Aside0.mk hT
      have HF := Aside0.mk hF
      have HLEN := Aside0.mk hLEN
      have HBY := Aside0.mk hBY
      have HZ := Aside0.mk hz
      clear hT hF hLEN hBY hz
      go_enter Try.func42, Try.ntmps42
      go_wp2_with (first | (go_at_call 63; (with_reducible refine (sized_calls _ _).mono ?_); rintro e w_63 ⟨rfl, rfl⟩; rw [hd]; skip) | (go_at_call 69; (with_reducible refine (otake_c g l 0 n r l' e' _ ?s0 ?s1 ?s2).mono ?_); (case s0 => exact HB0.out); (case s1 => intro _; have := HZ.out; omega); (case s2 => exact HT.out); rintro e w1 ⟨v, rfl, hv, hr, hk⟩; obtain ⟨Av, cv, rfl, hcv, hrv⟩ := hv; have HV := Aside0.mk hrv; have HRB := Aside0.mk hr; have HK := Aside0.mk (hk); clear hr hk hcv))
      have HB4 := Aside0.mk (beFrom_lt HBY.out)
      have hm := hrv.max
      clear hrv
      go_loopg [4, 31] r.length (fun k v4 v31 w' => ∃ i : Nat, i + k = r.length ∧ v31 = .int .i64 i ∧ v4 = .int .i64 (beFrom 0 (r.take i) : Nat) ∧ Aside0 (w1 = w'))
      case atStart => exact ⟨0, by omega, rfl, rfl, ⟨rfl⟩⟩
      case round =>
        obtain ⟨i, hi, rfl, rfl, HW⟩ := hrel
        obtain rfl := HW.out
        have hs := beFrom_take 0 r i
        have hx := HBY.out.at_ i
        have hlt : beFrom 0 (r.take i) < 4294967296 := by
          rcases Nat.lt_or_ge r.length i with hh | hh
          · omega
          · have := HB4.out i hh; have : 256 ^ i ≤ 256 ^ 4 := Nat.pow_le_pow_right (by omega) (by have := HLEN.out; omega); omega
        have hlt2 : i + 1 ≤ r.length → beFrom 0 (r.take (i + 1)) < 4294967296 := by
          intro hh
          have := HB4.out (i + 1) hh; have : 256 ^ (i + 1) ≤ 256 ^ 4 := Nat.pow_le_pow_right (by omega) (by have := HLEN.out; omega); omega
        obtain ⟨m, hm'⟩ : ∃ m, beFrom 0 (r.take i) = m := ⟨_, rfl⟩
        rw [hm'] at hs hlt
        rw [hm']
        have HS := Aside0.mk hs
        have HM := Aside0.mk hm'
        have HL2 := Aside0.mk hlt2
        clear hs hm' hlt2
        by_cases h8 : i < r.length
        · obtain ⟨g', rfl⟩ : ∃ g', gk = g' + 1 := ⟨gk - 1, by omega⟩
          obtain ⟨ad, e1, hc⟩ := HV.out.atN i h8
          subst e1
          obtain ⟨c, hcx⟩ : ∃ c : Nat, r.getD i 0 = (c : Int) := ⟨(r.getD i 0).toNat, by omega⟩
          rw [hcx] at hc hx
          have HC := Aside0.mk hcx
          have hlc : c < 256 := by omega
          clear hcx hx
          have q1 : (i : Int) < (r.length : Int) := by omega
          replace q1 := eq_true q1
          have h0 := i64_or_nat (m * 256) c (by omega) (by omega)
          rw [Int.natCast_mul, or_byte m c hlc] at h0
          have h0' : bits .or .i64 ((m : Int) * 256) (c : Int) = ((256 * m + c : Nat) : Int) := h0
          clear h0
          go_wp2
          go_roundg g'
          case measure => omega
          case rel => exact ⟨i + 1, by omega, by go_num, by rw [HS.out h8, HC.out]; rfl, ⟨rfl⟩⟩
        · have e : i = r.length := by omega
          subst e
          have HN' := Aside0.mk (show be r = m by rw [← HM.out, List.take_length]; rfl)
          clear HM HS HL2
          go_wp2
          go_ret
          obtain ⟨rfl, hv2⟩ := Prod.mk.inj (HF.out.symm.trans HS0.out)
          exact ⟨by rw [HN'.out]; rfl, hv2 ▸ HRB.out, HK.out⟩

    · have hd : decide (n = 1 ∨ n = 2 ∨ n = 4) = false := decide_eq_false hz
      obtain ⟨hF, hT⟩ := rNum_arg (l := l) hz
      obtain ⟨r, hr⟩ : ∃ r : List Int, r = [] := ⟨_, rfl⟩
      have HT : Aside0 (rTake [] 2 n = (r, [], 2)) := ⟨by rw [hr]; exact hT⟩
      have HF : Aside0 (rNum l 0 n = (((be r : Nat) : Int), [], 2)) := ⟨by rw [hr]; exact hF⟩
      have HLEN := Aside0.mk (show r.length ≤ 4 by rw [hr]; simp)
      have HBY := Aside0.mk (show bytesP r by rw [hr]; exact bytesP.nil)
      clear hT hF hz hr
      have HK0 := Aside0.mk (((Kp.refl w g).set_ 0 (.slice none 0 0)).set_ 1 (.int .i64 2))
      have HB0 : Aside0 (Rb ((w.setCell ⟨g, 0, none⟩ (.slice none 0 0)).setCell ⟨g, 1, none⟩ (.int .i64 2)) 60 g [] 2) := ⟨⟨none, 0, by simpa using blk_set (blk_set HG.out 0 (.slice none 0 0)) 1 (.int .i64 2), Nat.le_refl _, BC.nil _⟩⟩
      go_enter Try.func42, Try.ntmps42
      go_wp2_with (first | (go_at_call 63; (with_reducible refine (sized_calls _ _).mono ?_); rintro e w_63 ⟨rfl, rfl⟩; rw [hd]; skip) | (go_at_call 69; (with_reducible refine (otake_c g [] 2 n r [] 2 _ ?s0 ?s1 ?s2).mono ?_); (case s0 => exact HB0.out); (case s1 => intro h; exact absurd h (by decide)); (case s2 => exact HT.out); rintro e w1 ⟨v, rfl, hv, hr, hk⟩; obtain ⟨Av, cv, rfl, hcv, hrv⟩ := hv; have HV := Aside0.mk hrv; have HRB := Aside0.mk hr; have HK := Aside0.mk (HK0.out.trans hk); clear hr hk hcv))
      have HB4 := Aside0.mk (beFrom_lt HBY.out)
      have hm := hrv.max
      clear hrv
      go_loopg [4, 31] r.length (fun k v4 v31 w' => ∃ i : Nat, i + k = r.length ∧ v31 = .int .i64 i ∧ v4 = .int .i64 (beFrom 0 (r.take i) : Nat) ∧ Aside0 (w1 = w'))
      case atStart => exact ⟨0, by omega, rfl, rfl, ⟨rfl⟩⟩
      case round =>
        obtain ⟨i, hi, rfl, rfl, HW⟩ := hrel
        obtain rfl := HW.out
        have hs := beFrom_take 0 r i
        have hx := HBY.out.at_ i
        have hlt : beFrom 0 (r.take i) < 4294967296 := by
          rcases Nat.lt_or_ge r.length i with hh | hh
          · omega
          · have := HB4.out i hh; have : 256 ^ i ≤ 256 ^ 4 := Nat.pow_le_pow_right (by omega) (by have := HLEN.out; omega); omega
        have hlt2 : i + 1 ≤ r.length → beFrom 0 (r.take (i + 1)) < 4294967296 := by
          intro hh
          have := HB4.out (i + 1) hh; have : 256 ^ (i + 1) ≤ 256 ^ 4 := Nat.pow_le_pow_right (by omega) (by have := HLEN.out; omega); omega
        obtain ⟨m, hm'⟩ : ∃ m, beFrom 0 (r.take i) = m := ⟨_, rfl⟩
        rw [hm'] at hs hlt
        rw [hm']
        have HS := Aside0.mk hs
        have HM := Aside0.mk hm'
        have HL2 := Aside0.mk hlt2
        clear hs hm' hlt2
        by_cases h8 : i < r.length
        · obtain ⟨g', rfl⟩ : ∃ g', gk = g' + 1 := ⟨gk - 1, by omega⟩
          obtain ⟨ad, e1, hc⟩ := HV.out.atN i h8
          subst e1
          obtain ⟨c, hcx⟩ : ∃ c : Nat, r.getD i 0 = (c : Int) := ⟨(r.getD i 0).toNat, by omega⟩
          rw [hcx] at hc hx
          have HC := Aside0.mk hcx
          have hlc : c < 256 := by omega
          clear hcx hx
          have q1 : (i : Int) < (r.length : Int) := by omega
          replace q1 := eq_true q1
          have h0 := i64_or_nat (m * 256) c (by omega) (by omega)
          rw [Int.natCast_mul, or_byte m c hlc] at h0
          have h0' : bits .or .i64 ((m : Int) * 256) (c : Int) = ((256 * m + c : Nat) : Int) := h0
          clear h0
          go_wp2
          go_roundg g'
          case measure => omega
          case rel => exact ⟨i + 1, by omega, by go_num, by rw [HS.out h8, HC.out]; rfl, ⟨rfl⟩⟩
        · have e : i = r.length := by omega
          subst e
          have HN' := Aside0.mk (show be r = m by rw [← HM.out, List.take_length]; rfl)
          clear HM HS HL2
          go_wp2
          go_ret
          obtain ⟨rfl, hv2⟩ := Prod.mk.inj (HF.out.symm.trans HS0.out)
          exact ⟨by rw [HN'.out]; rfl, hv2 ▸ HRB.out, HK.out⟩

  · have z : (e0 == 0) = false := beq_eq_false_iff_ne.mpr he
    obtain ⟨hF, hT⟩ := rNum_err (l := l) (n := n) he
    have HT := Aside0.mk hT
    have HF := Aside0.mk hF
    obtain ⟨r, hr⟩ : ∃ r : List Int, r = [] := ⟨_, rfl⟩
    rw [← hr] at HT HF
    have HLEN := Aside0.mk (show r.length ≤ 4 by rw [hr]; simp)
    have HBY := Aside0.mk (show bytesP r by rw [hr]; exact bytesP.nil)
    have HE := Aside0.mk he
    clear hT hF hr
    go_enter Try.func42, Try.ntmps42
    go_wp2_with (first | (go_at_call 69; (with_reducible refine (otake_c g l e0 n r l e0 _ ?s0 ?s1 ?s2).mono ?_); (case s0 => exact HB0.out); (case s1 => intro h; exact absurd h HE.out); (case s2 => exact HT.out); rintro e w1 ⟨v, rfl, hv, hr, hk⟩; obtain ⟨Av, cv, rfl, hcv, hrv⟩ := hv; have HV := Aside0.mk hrv; have HRB := Aside0.mk hr; have HK := Aside0.mk (hk); clear hr hk hcv))
    have HB4 := Aside0.mk (beFrom_lt HBY.out)
    have hm := hrv.max
    clear hrv
    go_loopg [4, 31] r.length (fun k v4 v31 w' => ∃ i : Nat, i + k = r.length ∧ v31 = .int .i64 i ∧ v4 = .int .i64 (beFrom 0 (r.take i) : Nat) ∧ Aside0 (w1 = w'))
    case atStart => exact ⟨0, by omega, rfl, rfl, ⟨rfl⟩⟩
    case round =>
      obtain ⟨i, hi, rfl, rfl, HW⟩ := hrel
      obtain rfl := HW.out
      have hs := beFrom_take 0 r i
      have hx := HBY.out.at_ i
      have hlt : beFrom 0 (r.take i) < 4294967296 := by
        rcases Nat.lt_or_ge r.length i with hh | hh
        · omega
        · have := HB4.out i hh; have : 256 ^ i ≤ 256 ^ 4 := Nat.pow_le_pow_right (by omega) (by have := HLEN.out; omega); omega
      have hlt2 : i + 1 ≤ r.length → beFrom 0 (r.take (i + 1)) < 4294967296 := by
        intro hh
        have := HB4.out (i + 1) hh; have : 256 ^ (i + 1) ≤ 256 ^ 4 := Nat.pow_le_pow_right (by omega) (by have := HLEN.out; omega); omega
      obtain ⟨m, hm'⟩ : ∃ m, beFrom 0 (r.take i) = m := ⟨_, rfl⟩
      rw [hm'] at hs hlt
      rw [hm']
      have HS := Aside0.mk hs
      have HM := Aside0.mk hm'
      have HL2 := Aside0.mk hlt2
      clear hs hm' hlt2
      by_cases h8 : i < r.length
      · obtain ⟨g', rfl⟩ : ∃ g', gk = g' + 1 := ⟨gk - 1, by omega⟩
        obtain ⟨ad, e1, hc⟩ := HV.out.atN i h8
        subst e1
        obtain ⟨c, hcx⟩ : ∃ c : Nat, r.getD i 0 = (c : Int) := ⟨(r.getD i 0).toNat, by omega⟩
        rw [hcx] at hc hx
        have HC := Aside0.mk hcx
        have hlc : c < 256 := by omega
        clear hcx hx
        have q1 : (i : Int) < (r.length : Int) := by omega
        replace q1 := eq_true q1
        have h0 := i64_or_nat (m * 256) c (by omega) (by omega)
        rw [Int.natCast_mul, or_byte m c hlc] at h0
        have h0' : bits .or .i64 ((m : Int) * 256) (c : Int) = ((256 * m + c : Nat) : Int) := h0
        clear h0
        go_wp2
        go_roundg g'
        case measure => omega
        case rel => exact ⟨i + 1, by omega, by go_num, by rw [HS.out h8, HC.out]; rfl, ⟨rfl⟩⟩
      · have e : i = r.length := by omega
        subst e
        have HN' := Aside0.mk (show be r = m by rw [← HM.out, List.take_length]; rfl)
        clear HM HS HL2
        go_wp2
        go_ret
        obtain ⟨rfl, hv2⟩ := Prod.mk.inj (HF.out.symm.trans HS0.out)
        exact ⟨by rw [HN'.out]; rfl, hv2 ▸ HRB.out, HK.out⟩

set_option maxHeartbeats 8000000 in
set_option maxRecDepth 100000 in
theorem oleft_c (g : Nat) (l : List Int) (e0 : Int) (w : World) (h0 : Rb w 60 g l e0) :
    Calls Try.prog 46 #[.pointer (some ⟨g, 0, none⟩)] w fun e w' => e = .returned (.int .i64 l.length) ∧ w = w' := by
  obtain ⟨A0, c0, hg, hc0, hr0⟩ := h0
  have x0 := blk_cell hg 0
  simp only [List.getElem?_toArray, List.getElem?_cons_zero] at x0
  clear hg hr0
  go_enter Try.func46, Try.ntmps46
  go_wp2
  go_ret
  exact ⟨rfl, rfl⟩
set_option maxHeartbeats 8000000 in
set_option maxRecDepth 100000 in
theorem oerr_c (g : Nat) (l : List Int) (e0 : Int) (w : World) (h0 : Rb w 60 g l e0) :
    Calls Try.prog 48 #[.pointer (some ⟨g, 0, none⟩)] w fun e w' => e = .returned (.int .i64 e0) ∧ w = w' := by
  obtain ⟨A0, c0, hg, hc0, hr0⟩ := h0
  have x1 := blk_cell hg 1
  simp only [List.getElem?_toArray, List.getElem?_cons_zero, List.getElem?_cons_succ] at x1
  clear hg hr0
  go_enter Try.func48, Try.ntmps48
  go_wp2
  go_ret
  exact ⟨rfl, rfl⟩
set_option maxHeartbeats 8000000 in
set_option maxRecDepth 100000 in
theorem oend_c (g : Nat) (l : List Int) (e0 : Int) (x : Int) (w : World) (h0 : Rb w 60 g l e0) (hx : rEnd l e0 = x) :
    Calls Try.prog 50 #[.pointer (some ⟨g, 0, none⟩)] w fun e w' => e = .returned (.int .i64 x) ∧ w = w' := by
  have H0 := Aside0.mk h0
  have HX := Aside0.mk hx
  clear h0 hx
  by_cases he : e0 = 0
  · subst he
    by_cases hl : 0 < l.length
    · have z : decide ((0 : Int) < (l.length : Int)) = true := decide_eq_true (by omega)
      have z2 : decide (0 < l.length) = true := decide_eq_true (by omega)
      obtain rfl : 4 = x := by rw [← HX.out]; unfold rEnd; rw [if_pos ⟨rfl, hl⟩]
      go_enter Try.func50, Try.ntmps50
      go_wp2_with (first | (go_at_call 48; (with_reducible refine (oerr_c g l 0 _ ?s0).mono ?_); (case s0 => exact H0.out); rintro e w1 ⟨rfl, rfl⟩) | (go_at_call 46; (with_reducible refine (oleft_c g l 0 _ ?s0).mono ?_); (case s0 => exact H0.out); rintro e w1 ⟨rfl, rfl⟩))
      go_ret
      exact ⟨rfl, rfl⟩
    · have z : decide ((0 : Int) < (l.length : Int)) = false := decide_eq_false (by omega)
      have z2 : decide (0 < l.length) = false := decide_eq_false (by omega)
      obtain rfl : 0 = x := by rw [← HX.out]; unfold rEnd; rw [if_neg (fun h => hl h.2)]
      go_enter Try.func50, Try.ntmps50
      go_wp2_with (first | (go_at_call 48; (with_reducible refine (oerr_c g l 0 _ ?s0).mono ?_); (case s0 => exact H0.out); rintro e w1 ⟨rfl, rfl⟩) | (go_at_call 46; (with_reducible refine (oleft_c g l 0 _ ?s0).mono ?_); (case s0 => exact H0.out); rintro e w1 ⟨rfl, rfl⟩))
      go_ret
      exact ⟨rfl, rfl⟩
  · have z : (e0 == 0) = false := beq_eq_false_iff_ne.mpr he
    obtain rfl : e0 = x := by rw [← HX.out]; unfold rEnd; rw [if_neg (fun h => he h.1)]
    go_enter Try.func50, Try.ntmps50
    go_wp2_with (first | (go_at_call 48; (with_reducible refine (oerr_c g l e0 _ ?s0).mono ?_); (case s0 => exact H0.out); rintro e w1 ⟨rfl, rfl⟩) | (go_at_call 46; (with_reducible refine (oleft_c g l e0 _ ?s0).mono ?_); (case s0 => exact H0.out); rintro e w1 ⟨rfl, rfl⟩))
    go_ret
    exact ⟨rfl, rfl⟩
set_option maxHeartbeats 8000000 in
set_option maxRecDepth 100000 in
theorem otext_c (g : Nat) (l : List Int) (e0 : Int) (r l' : List Int) (e' : Int) (w : World) (h0 : Rb w 60 g l e0) (hb : bytesP l) (hlen : l.length < 140737488355328) (hs : rText l e0 = (r, l', e')) :
    Calls Try.prog 44 #[.pointer (some ⟨g, 0, none⟩)] w fun e w' => ∃ v, e = .returned v ∧ BR w' w.heap.size v r ∧ Rb w' 60 g l' e' ∧ Kp w w' g := by
  have H0 := Aside0.mk h0
  have HBL := Aside0.mk hb
  obtain ⟨n, st, hn⟩ : ∃ n st, rNum l e0 2 = (n, st) := ⟨_, _, rfl⟩
  have HN := Aside0.mk hn
  have HR := Aside0.mk (show 0 ≤ n by have := (rNum_range (e := e0) (n := 2) hb).1; rw [hn] at this; exact this)
  have HT := Aside0.mk (show rTake st.1 st.2 n = (r, l', e') by rw [← hs]; unfold rText; rw [hn])
  have HL := Aside0.mk (show r.length < 140737488355328 by
    have h1 : st.1.length ≤ l.length := by
      have : st = (rNum l e0 2).2 := by rw [hn]
      rw [this]
      unfold rNum
      split
      · exact Nat.le_refl _
      split
      · simp
      split
      · simp
      · simp
    have h2 : r = (rTake st.1 st.2 n).1 := by rw [HT.out]
    have h3 : r.length ≤ st.1.length := by
      rw [h2]
      unfold rTake
      split
      · simp
      split
      · simp
      · rw [List.length_take]; omega
    omega)
  clear h0 hb hn hs hlen
  go_enter Try.func44, Try.ntmps44
  go_wp2_with (first | (go_at_call 42; (with_reducible refine (onum_c g l e0 2 n st _ ?s0 ?s1 ?s2).mono ?_); (case s0 => exact H0.out); (case s1 => exact HBL.out); (case s2 => exact HN.out); rintro e w1 ⟨rfl, hr, hk⟩; have H1 := Aside0.mk hr; have HK1 := Aside0.mk hk; clear hr hk) | (go_at_call 69; (with_reducible refine (otake_c g st.1 st.2 n r l' e' _ ?s0 ?s1 ?s2).mono ?_); (case s0 => exact H1.out); (case s1 => intro _; exact HR.out); (case s2 => exact HT.out); rintro e w2 ⟨v, rfl, hv, hr, hk⟩; have H2 := Aside0.mk hr; have HK2 := Aside0.mk (HK1.out.trans hk); have HV := Aside0.mk hv; clear hr hk hv) | (go_at_call 64; (with_reducible refine (clone_v _ r _ ?s0 ?s1).mono ?_); (case s0 => exact HV.out); (case s1 => exact HL.out); rintro e w3 ⟨v3, rfl, ho, hb⟩; have H3 := Aside0.mk (H2.out.mv hb); have HK3 := Aside0.mk (HK2.out.trans (Kp.of_below hb g)); have HO := Aside0.mk (ho.lower HK2.out.size); clear ho hb))
  go_ret
  exact ⟨_, rfl, HO.out, H3.out, HK3.out⟩

end Go.Proofs.Ytkgjmajabgpadaa
