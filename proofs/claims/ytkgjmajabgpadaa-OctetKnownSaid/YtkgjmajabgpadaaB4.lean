import Derived.Test.YtkgjmajabgpadaaB1
import Derived.Test.YtkgjmajabgpadaaS2
namespace Go.Proofs.Ytkgjmajabgpadaa
set_option linter.unusedVariables false
set_option linter.unusedSimpArgs false
open Go.RowKit Go.Proofs.YtkgjmajabgpadaaW.PrintWords Go.Proofs.YtkgjmajabgpadaaW.PrintLast Go.Proofs.YtkgjmajabgpadaaW.PrintMore
set_option maxHeartbeats 8000000 in
set_option maxRecDepth 100000 in
theorem step_calls (n c : Nat) (hn : n < 65536) (hc : c < 256) (w : World) :
    Calls Try.prog 65 #[.int .u16 (n : Int), .int .u8 (c : Int)] w fun e w' => e = .returned (.int .u16 (crcByte n c : Nat)) ∧ w = w' := by
  have h0 := u16_xor_nat n (c * 256) hn (by omega)
  rw [Int.natCast_mul] at h0
  have h0' : bits .xor .u16 (n : Int) ((c : Int) * 256) = ((n ^^^ (c * 256) : Nat) : Int) := h0
  clear h0
  have HM := crcStart_lt hn hc
  obtain ⟨m, hm⟩ : ∃ m, n ^^^ (c * 256) = m := ⟨_, rfl⟩
  rw [hm] at h0' HM
  have HC := Aside0.mk (show crcByte n c = crcBits 8 m by rw [← hm]; rfl)
  clear hm
  go_enter Try.func65, Try.ntmps65
  go_wp2
  clear h0' hn hc
  go_loopg [0, 10] 8 (fun g v0 v10 w' => ∃ k : Nat, k + g = 8 ∧ v10 = .int .i64 k ∧ v0 = .int .u16 (crcBits k m : Nat) ∧ Aside0 (w = w'))
  case atStart => exact ⟨0, by omega, rfl, rfl, ⟨rfl⟩⟩
  case round =>
    obtain ⟨k, hk, rfl, rfl, HW⟩ := hrel
    have hs : crcBits (k + 1) m = crcBit (crcBits k m) := rfl
    have hlt := crcBits_lt HM k
    obtain ⟨x, hx⟩ : ∃ x, crcBits k m = x := ⟨_, rfl⟩
    rw [hx] at hs hlt
    rw [hx]
    have HS := Aside0.mk hs
    have HX := Aside0.mk hx
    clear hs hx
    by_cases h8 : k < 8
    · obtain ⟨g', rfl⟩ : ∃ g', gk = g' + 1 := ⟨gk - 1, by omega⟩
      have ha := u16_and_nat x 32768 hlt (by omega)
      by_cases hb : x < 32768
      · rw [and_top_low x hb] at ha
        have ha' : bits .and .u16 (x : Int) 32768 = 0 := ha
        clear ha
        go_wp2
        go_roundg g'
        case measure => omega
        case rel => exact ⟨k + 1, by omega, by go_num, by rw [HS.out, crcBit, if_pos hb, Nat.mul_comm]; rfl, HW⟩
      · rw [and_top_high x (by omega) hlt] at ha
        have ha' : bits .and .u16 (x : Int) 32768 = 32768 := ha
        clear ha
        have hxr := u16_xor_nat (2 * x - 65536) 4129 (by omega) (by omega)
        have hw : IntKind.u16.wrap ((x : Int) * 2) = ((2 * x - 65536 : Nat) : Int) := by simp [IntKind.wrap, IntKind.bits, IntKind.signed]; omega
        rw [← hw] at hxr
        have hxr' : bits .xor .u16 (IntKind.u16.wrap ((x : Int) * 2)) 4129 = (((2 * x - 65536) ^^^ 4129 : Nat) : Int) := hxr
        clear hw
        clear hxr
        go_wp2
        go_roundg g'
        case measure => omega
        case rel => exact ⟨k + 1, by omega, by go_num, by rw [HS.out, crcBit, if_neg hb], HW⟩
    · obtain rfl : k = 8 := by omega
      go_wp2
      go_ret
      exact ⟨by rw [HC.out, HX.out]; rfl, HW.out⟩
set_option maxHeartbeats 8000000 in
set_option maxRecDepth 100000 in
theorem osum_calls (A0 : Option Addr) (c0 : Nat) (l0 : List Int) (w : World) (hr0 : BC w A0 l0) (hb0 : bytesP l0) :
    Calls Try.prog 27 #[.slice A0 l0.length c0] w fun e w' => e = .returned (.int .i64 (sumS l0 : Nat)) ∧ w = w' := by
  have HR0 := Aside0.mk hr0
  have HP := Aside0.mk hb0
  have hm := hr0.max
  clear hr0 hb0
  go_enter Try.func27, Try.ntmps27
  go_wp2
  go_loopg [3, 8] l0.length (fun g v3 v8 w' => ∃ i : Nat, i + g = l0.length ∧ v8 = .int .i64 i ∧ v3 = .int .u16 (crcFrom 65535 (l0.take i) : Nat) ∧ Aside0 (w = w'))
  case atStart => exact ⟨0, by omega, rfl, rfl, ⟨rfl⟩⟩
  case round =>
    obtain ⟨i, hi, rfl, rfl, HW⟩ := hrel
    obtain rfl := HW.out
    have hs := crcFrom_take 65535 l0 i
    have hlt := crcFrom_lt (l0.take i) (n := 65535) (by omega) (HP.out.take i)
    have hx := HP.out.at_ i
    obtain ⟨n, hn⟩ : ∃ n, crcFrom 65535 (l0.take i) = n := ⟨_, rfl⟩
    rw [hn] at hs hlt
    rw [hn]
    have HS := Aside0.mk hs
    have HN := Aside0.mk hn
    clear hs hn
    by_cases h8 : i < l0.length
    · obtain ⟨g', rfl⟩ : ∃ g', gk = g' + 1 := ⟨gk - 1, by omega⟩
      obtain ⟨ad, e1, hc⟩ := HR0.out.atN i h8
      subst e1
      obtain ⟨c, hcx⟩ : ∃ c : Nat, l0.getD i 0 = (c : Int) := ⟨(l0.getD i 0).toNat, by omega⟩
      rw [hcx] at hc hx
      have HC := Aside0.mk hcx
      have hlc : c < 256 := by omega
      clear hcx hx
      have q1 : (i : Int) < (l0.length : Int) := by omega
      replace q1 := eq_true q1
      go_wp2_with (first | (go_at_call 65; (with_reducible refine (step_calls n c hlt hlc _).mono ?_); rintro e w_65 ⟨rfl, rfl⟩; skip))
      go_roundg g'
      case measure => omega
      case rel => exact ⟨i + 1, by omega, by go_num, by rw [HS.out h8, HC.out]; rfl, ⟨rfl⟩⟩
    · have e : i = l0.length := by omega
      subst e
      have HN' := Aside0.mk (show sumS l0 = n by rw [← HN.out, List.take_length]; rfl)
      clear HN HS
      go_wp2
      go_ret
      exact ⟨by rw [HN'.out]; rfl, rfl⟩
set_option maxHeartbeats 8000000 in
set_option maxRecDepth 100000 in
theorem rsum_calls (A0 : Option Addr) (c0 : Nat) (l0 : List Int) (w : World) (hr0 : BC w A0 l0) (hb0 : bytesP l0) :
    Calls Try.prog 28 #[.slice A0 l0.length c0] w fun e w' => e = .returned (.int .i64 (sumS l0 : Nat)) ∧ w = w' := by
  have HR0 := Aside0.mk hr0
  have HP := Aside0.mk hb0
  have hm := hr0.max
  clear hr0 hb0
  go_enter Try.func28, Try.ntmps28
  go_wp2
  go_loopg [3, 4] l0.length (fun g v3 v8 w' => ∃ i : Nat, i + g = l0.length ∧ v8 = .int .i64 i ∧ v3 = .int .i64 (crcFrom 65535 (l0.take i) : Nat) ∧ Aside0 (w = w'))
  case atStart => exact ⟨0, by omega, rfl, rfl, ⟨rfl⟩⟩
  case round =>
    obtain ⟨i, hi, rfl, rfl, HW⟩ := hrel
    obtain rfl := HW.out
    have hs := crcFrom_take 65535 l0 i
    have hlt := crcFrom_lt (l0.take i) (n := 65535) (by omega) (HP.out.take i)
    have hx := HP.out.at_ i
    obtain ⟨n, hn⟩ : ∃ n, crcFrom 65535 (l0.take i) = n := ⟨_, rfl⟩
    rw [hn] at hs hlt
    rw [hn]
    have HS := Aside0.mk hs
    have HN := Aside0.mk hn
    clear hs hn
    by_cases h8 : i < l0.length
    · obtain ⟨g', rfl⟩ : ∃ g', gk = g' + 1 := ⟨gk - 1, by omega⟩
      obtain ⟨ad, e1, hc⟩ := HR0.out.atN i h8
      subst e1
      obtain ⟨c, hcx⟩ : ∃ c : Nat, l0.getD i 0 = (c : Int) := ⟨(l0.getD i 0).toNat, by omega⟩
      rw [hcx] at hc hx
      have HC := Aside0.mk hcx
      have hlc : c < 256 := by omega
      clear hcx hx
      have q1 : (i : Int) < (l0.length : Int) := by omega
      replace q1 := eq_true q1
      have h0 := i64_xor_nat n (c * 256) (by omega) (by omega)
      rw [Int.natCast_mul] at h0
      have h0' : bits .xor .i64 (n : Int) ((c : Int) * 256) = ((n ^^^ (c * 256) : Nat) : Int) := h0
      clear h0
      have HM := crcStart_lt hlt hlc
      obtain ⟨m, hm⟩ : ∃ m, n ^^^ (c * 256) = m := ⟨_, rfl⟩
      rw [hm] at h0' HM
      have HCB := Aside0.mk (show crcByte n c = crcBits 8 m by rw [← hm]; rfl)
      clear hm
      go_wp2
      clear h0' hlt hc
      go_loopg [3, 5] 8 (fun g v0 v10 w' => ∃ k : Nat, k + g = 8 ∧ v10 = .int .i64 k ∧ v0 = .int .i64 (crcBits k m : Nat) ∧ Aside0 (w = w'))
      case atStart => exact ⟨0, by omega, rfl, rfl, ⟨rfl⟩⟩
      case round =>
        obtain ⟨k, hk, rfl, rfl, HW⟩ := hrel
        obtain rfl := HW.out
        have hs : crcBits (k + 1) m = crcBit (crcBits k m) := rfl
        have hlt := crcBits_lt HM k
        obtain ⟨x, hx⟩ : ∃ x, crcBits k m = x := ⟨_, rfl⟩
        rw [hx] at hs hlt
        rw [hx]
        have HSS := Aside0.mk hs
        have HX := Aside0.mk hx
        clear hs hx
        by_cases h8k : k < 8
        · obtain ⟨g2, rfl⟩ : ∃ g2, gk = g2 + 1 := ⟨gk - 1, by omega⟩
          clear hi h8 hlc q1 hm
          by_cases hb : x < 32768
          · have z : decide (65536 ≤ (x : Int) * 2) = false := decide_eq_false (by omega)
            have HBB := Aside0.mk hb
            clear hb
            go_wp2
            go_roundg g2
            case measure => omega
            case rel => exact ⟨k + 1, by omega, by go_num, by rw [HSS.out, crcBit, if_pos HBB.out, Nat.mul_comm]; rfl, ⟨rfl⟩⟩
          · have hxr := i64_xor_nat (2 * x - 65536) 4129 (by omega) (by omega)
            rw [show ((2 * x - 65536 : Nat) : Int) = (x : Int) * 2 - 65536 by omega] at hxr
            have hxr' : bits .xor .i64 ((x : Int) * 2 - 65536) 4129 = (((2 * x - 65536) ^^^ 4129 : Nat) : Int) := hxr
            have z : decide (65536 ≤ (x : Int) * 2) = true := decide_eq_true (by omega)
            have HBB := Aside0.mk hb
            clear hxr hb
            go_wp2
            go_roundg g2
            case measure => omega
            case rel => exact ⟨k + 1, by omega, by go_num, by rw [HSS.out, crcBit, if_neg HBB.out], ⟨rfl⟩⟩
        · obtain rfl : k = 8 := by omega
          go_wp2
          go_roundg g'
          case measure => omega
          case rel => exact ⟨i + 1, by omega, by go_num, by rw [HS.out h8, HC.out]; show _ = Value.int _ ((crcByte n c : Nat) : Int); rw [HCB.out, HX.out], ⟨rfl⟩⟩
    · have e : i = l0.length := by omega
      subst e
      have HN' := Aside0.mk (show sumS l0 = n by rw [← HN.out, List.take_length]; rfl)
      clear HN HS
      go_wp2
      go_ret
      exact ⟨by rw [HN'.out]; rfl, rfl⟩

end Go.Proofs.Ytkgjmajabgpadaa
