import Derived.Test.YtkgjmajabgpadaaC3
namespace Go.Proofs.Ytkgjmajabgpadaa
set_option linter.unusedVariables false
set_option linter.unusedSimpArgs false
open Go.RowKit Go.Proofs.YtkgjmajabgpadaaW.PrintWords Go.Proofs.YtkgjmajabgpadaaW.PrintLast Go.Proofs.YtkgjmajabgpadaaW.PrintMore
/-- A block of a reader, of whose bytes we know where they lie. -/
def Rq (Q : Nat → Prop) (w : World) (T g : Nat) (l : List Int) (e : Int) : Prop :=
  ∃ A c, w.heap[g]? = some (.cells #[.slice A l.length c, .int .i64 e] T (0, 0)) ∧ l.length ≤ c ∧ BC w A l ∧ (0 < l.length → ∀ a, A = some a → Q a.block)
section
variable {Q : Nat → Prop} {w w1 : World} {T g : Nat} {l : List Int} {e : Int}
theorem Rq.rb (h : Rq Q w T g l e) : Rb w T g l e := by
  obtain ⟨A, c, hg, hc, hb, _⟩ := h
  exact ⟨A, c, hg, hc, hb⟩
theorem Rq.of_nil (h : Rb w T g [] e) : Rq Q w T g [] e := by
  obtain ⟨A, c, hg, hc, hb⟩ := h
  exact ⟨A, c, hg, hc, hb, by simp⟩
theorem Rq.lt (h : Rq Q w T g l e) : g < w.heap.size := h.rb.lt
theorem Rq.mv (h : Rq Q w T g l e) (hb : Below w.heap.size w w1) : Rq Q w1 T g l e := by
  obtain ⟨A, c, hg, hc, h, hq⟩ := h
  exact ⟨A, c, (hb.block g (blk_lt hg)).trans hg, hc, h.mv hb, hq⟩
theorem Rq.alloc (h : Rq Q w T g l e) (o : Obj) : Rq Q (w.alloc o) T g l e := h.mv (below_alloc (Below.refl _ _) o)
theorem Rq.drew (h : Rq Q w T g l e) : Rq Q w.drew T g l e := h.mv (below_drew (Below.refl _ _))
theorem Rq.drewN (h : Rq Q w T g l e) (n : Nat) : Rq Q (w.drewN n) T g l e := h.mv (pw_below_drewN (Below.refl _ _) n)
theorem Rq.put (h : Rq Q w T g l e) {gd : Nat} (hQ : ¬ Q gd) (hne : g ≠ gd) (i : Nat) (v : Value) : Rq Q (w.setCell ⟨gd, i, none⟩ v) T g l e := by
  obtain ⟨A, c, hg, hc, h, hq⟩ := h
  refine ⟨A, c, (Below.heap_setCell _ _ _ _ hne).trans hg, hc, ?_, hq⟩
  refine BC.of_reads h.max fun hp => ?_
  obtain ⟨ad, e1, _⟩ := h.atN 0 hp
  refine ⟨ad, e1, fun j hj => ?_⟩
  obtain ⟨ad', e2, hcl⟩ := h.atN j hj
  rw [e1] at e2
  injection e2 with e2
  subst e2
  have hbl : (ad.add j).block = ad.block := by unfold Addr.add; split <;> rfl
  have hn : (ad.add j).block ≠ gd := fun hh => hQ (by rw [← hh, hbl]; exact hq hp ad e1)
  exact (World.cell?_of_block (w := w) (Below.heap_setCell _ _ _ _ hn)).trans hcl
end
theorem BC.blk_lt {w : World} {A : Option Addr} {l : List Int} (h : BC w A l) (hp : 0 < l.length) (a : Addr) (ha : A = some a) : a.block < w.heap.size := by
  obtain ⟨ad, e1, hc⟩ := h.atN 0 hp
  rw [ha] at e1
  injection e1 with e1
  subst e1
  have h1 := World.block_lt_of_cell? w _ hc
  have hbl : (a.add 0).block = a.block := by unfold Addr.add; split <;> rfl
  rw [← hbl]
  exact h1
theorem from_runq (A : Option Addr) (l : List Int) (c j : Nat) (hj : j ≤ l.length) (hc : l.length ≤ c) :
    ∃ A' : Option Addr, (∀ W : World, (Instr.slice 22 (.slice A l.length c) (some (.int .i64 (j : Int))) none none).run Try.prog W = .ok (.slice A' (l.length - j) (c - j)) W) ∧ (∀ w : World, BC w A l → BC w A' (l.drop j)) ∧ ∀ a', A' = some a' → ∃ a, A = some a ∧ a.block = a'.block := by
  obtain ⟨i0, hi, hzz⟩ := Option.map_eq_some_iff.1 info5
  simp only [Prod.mk.injEq] at hzz
  have h1 := cut_from (P := Try.prog) 22 5 .i64 Try.underlying22 hi 1 hzz.2.1 A l.length c (j : Int) (by omega) (by omega)
  simp only [Int.toNat_natCast, Nat.mul_one] at h1
  refine ⟨_, h1, fun w h => h.drop hj hc, ?_⟩
  intro a' ha
  split at ha
  · exact ⟨a', ha, rfl⟩
  · rcases A with _ | a
    · simp at ha
    · simp at ha
      exact ⟨a, rfl, by rw [← ha]; unfold Addr.add; split <;> rfl⟩
theorem oread_q (P : Nat → Prop) (v0 : Value) (l : List Int) (w : World) (h0 : BV w v0 l) (hq : ∀ a n c, v0 = .slice (some a) n c → P a.block) :
    Calls Try.prog 40 #[v0] w fun e w' => ∃ g, e = .returned (.pointer (some ⟨g, 0, none⟩)) ∧ g = w.heap.size ∧ Rq (fun k => k < g ∧ P k) w' 60 g l 0 ∧ Below w.heap.size w w' := by
  obtain ⟨A0, c0, rfl, hc0, hr0⟩ := h0
  have HR := Aside0.mk hr0
  have HC := Aside0.mk hc0
  have HQ := Aside0.mk hq
  clear hr0 hc0 hq
  have HB := Aside0.mk (Below.refl w.heap.size w)
  go_enter Try.func40, Try.ntmps40
  go_wp2
  go_ret
  exact ⟨_, rfl, rfl, ⟨A0, c0, blk_new w _, HC.out, HR.out.alloc _, fun hp a ha => ⟨HR.out.blk_lt hp a ha, HQ.out a _ _ (by rw [ha])⟩⟩, below_alloc HB.out _⟩
set_option maxHeartbeats 8000000 in
set_option maxRecDepth 100000 in
theorem otake_q {Q : Nat → Prop} (g : Nat) (l : List Int) (e0 n : Int) (r l' : List Int) (e' : Int) (w : World) (h0 : Rq Q w 60 g l e0) (hn : e0 = 0 → 0 ≤ n) (hs : rTake l e0 n = (r, l', e')) :
    Calls Try.prog 69 #[.pointer (some ⟨g, 0, none⟩), .int .i64 n] w fun e w' => ∃ v, e = .returned v ∧ BV w' v r ∧ Rq Q w' 60 g l' e' ∧ Kp w w' g := by
  obtain ⟨A0, c0, hg, hc0, hr0, hq0⟩ := h0
  have HQ := Aside0.mk hq0
  clear hq0
  have HG := Aside0.mk hg
  have HR := Aside0.mk hr0
  have HC := Aside0.mk hc0
  have HS := Aside0.mk hs
  have x0 := blk_cell hg 0
  have x1 := blk_cell hg 1
  have y0 := blk_frozen hg 0
  have y1 := blk_frozen hg 1
  have hm := hr0.max
  simp only [List.getElem?_toArray, List.getElem?_cons_zero, List.getElem?_cons_succ] at x0 x1
  clear hr0 hs hg
  by_cases he : e0 = 0
  · subst he
    have hn0 := hn rfl
    by_cases hl : (l.length : Int) < n
    · have z : decide ((l.length : Int) < n) = true := decide_eq_true hl
      have hv : rTake l 0 n = ([], [], 3) := by unfold rTake; rw [if_neg (by simp), if_pos hl]
      obtain ⟨rfl, hv2⟩ := Prod.mk.inj (hv.symm.trans HS.out)
      obtain ⟨rfl, rfl⟩ := Prod.mk.inj hv2
      clear hv hv2 hn
      go_enter Try.func69, Try.ntmps69
      go_wp2
      go_ret
      exact ⟨_, rfl, BV.nil _, ⟨none, 0, by simpa using blk_set (blk_set HG.out 0 (.slice none 0 0)) 1 (.int .i64 3), Nat.le_refl _, BC.nil _, by simp⟩, ((Kp.refl w g).set_ 0 _).set_ 1 _⟩
    · have z : decide ((l.length : Int) < n) = false := decide_eq_false hl
      obtain ⟨k, rfl⟩ := Int.eq_ofNat_of_zero_le hn0
      have hv : rTake l 0 (k : Int) = (l.take k, l.drop k, 0) := by unfold rTake; rw [if_neg (by simp), if_neg hl, Int.toNat_natCast]
      obtain ⟨rfl, hv2⟩ := Prod.mk.inj (hv.symm.trans HS.out)
      obtain ⟨rfl, rfl⟩ := Prod.mk.inj hv2
      clear hv hv2 hn hn0
      have z2 : decide (l.length < k) = false := decide_eq_false (by omega)
      obtain ⟨A', hf, hd, ha⟩ := from_runq A0 l c0 k (by omega) HC.out
      have ht := to_run A0 l c0 k (by omega) HC.out
      have HD := Aside0.mk hd
      have HA := Aside0.mk ha
      clear ha
      have HK := Aside0.mk (show k ≤ l.length by omega)
      clear hd hl hc0
      go_enter Try.func69, Try.ntmps69
      go_wp2
      go_ret
      have hK : Kp w (w.setCell ⟨g, 0, none⟩ (.slice A' (l.length - k) (c0 - k))) g := (Kp.refl w g).set_ 0 _
      have hl : (l.take k).length = k := by rw [List.length_take]; have := HK.out; omega
      have hl2 : (l.drop k).length = l.length - k := List.length_drop
      refine ⟨_, rfl, (((HR.out.take HK.out).kp HG.out hK).bv (by have := HK.out; have := HC.out; omega) hl), ⟨A', c0 - k, ?_, by have := HC.out; omega, (HD.out w HR.out).kp HG.out hK, fun hp a ea => by obtain ⟨a0, e0', e1⟩ := HA.out a ea; rw [← e1]; exact HQ.out (by simp only [List.length_drop] at hp; omega) a0 e0'⟩, hK⟩
      rw [hl2]
      simpa using blk_set HG.out 0 (.slice A' (l.length - k) (c0 - k))
  · have z : (e0 != 0) = true := bne_iff_ne.mpr he
    have hv : rTake l e0 n = ([], l, e0) := by unfold rTake; rw [if_pos he]
    obtain ⟨rfl, hv2⟩ := Prod.mk.inj (hv.symm.trans HS.out)
    obtain ⟨rfl, rfl⟩ := Prod.mk.inj hv2
    clear hv hv2 hn
    go_enter Try.func69, Try.ntmps69
    go_wp2
    go_ret
    exact ⟨_, rfl, BV.nil _, ⟨A0, c0, HG.out, HC.out, HR.out, HQ.out⟩, Kp.refl _ _⟩
set_option maxHeartbeats 8000000 in
set_option maxRecDepth 100000 in
theorem onum_q {Q : Nat → Prop} (g : Nat) (l : List Int) (e0 n : Int) (x : Int) (st : List Int × Int) (w : World) (h0 : Rq Q w 60 g l e0) (hb : bytesP l) (hs : rNum l e0 n = (x, st)) :
    Calls Try.prog 42 #[.pointer (some ⟨g, 0, none⟩), .int .i64 n] w fun e w' => e = .returned (.int .i64 x) ∧ Rq Q w' 60 g st.1 st.2 ∧ Kp w w' g := by
  have HB0 := Aside0.mk h0
  have HBL := Aside0.mk hb
  have HS0 := Aside0.mk hs
  obtain ⟨A0, c0, hg, hc0, hr0, hq0⟩ := h0
  have HQ := Aside0.mk hq0
  clear hq0
  have HG := Aside0.mk hg
  have HR := Aside0.mk hr0
  have HC := Aside0.mk hc0
  have x0 := blk_cell hg 0
  have x1 := blk_cell hg 1
  have y0 := blk_frozen hg 0
  have y1 := blk_frozen hg 1
  simp only [List.getElem?_toArray, List.getElem?_cons_zero, List.getElem?_cons_succ] at x0 x1
  clear hr0 hs hg hb
  by_cases he : e0 = 0
  · subst he
    by_cases hz : n = 1 ∨ n = 2 ∨ n = 4
    · have hd : decide (n = 1 ∨ n = 2 ∨ n = 4) = true := decide_eq_true hz
      obtain ⟨r, l', e', hT, hF, hLEN, hBY⟩ := rNum_take (l := l) hz HBL.out
      have HT := Aside0.mk hT
      have HF := Aside0.mk hF
      have HLEN := Aside0.mk hLEN
      have HBY := Aside0.mk hBY
      have HZ := Aside0.mk hz
      clear hT hF hLEN hBY hz
      go_enter Try.func42, Try.ntmps42
      go_wp2_with (first | (go_at_call 63; (with_reducible refine (sized_calls _ _).mono ?_); rintro e w_63 ⟨rfl, rfl⟩; rw [hd]; skip) | (go_at_call 69; (with_reducible refine (otake_q (Q := Q) g l 0 n r l' e' _ ?s0 ?s1 ?s2).mono ?_); (case s0 => exact HB0.out); (case s1 => intro _; have := HZ.out; omega); (case s2 => exact HT.out); rintro e w1 ⟨v, rfl, hv, hr, hk⟩; obtain ⟨Av, cv, rfl, hcv, hrv⟩ := hv; have HV := Aside0.mk hrv; have HRB := Aside0.mk hr; have HK := Aside0.mk (hk); clear hr hk hcv))
      have HB4 := Aside0.mk (beFrom_lt HBY.out)
      have hm := hrv.max
      clear hrv
      go_loopg [4, 31] r.length (fun k v4 v31 w' => ∃ i : Nat, i + k = r.length ∧ v31 = .int .i64 i ∧ v4 = .int .i64 (beFrom 0 (r.take i) : Nat) ∧ Aside0 (w1 = w'))
      case atStart => exact ⟨0, by omega, rfl, rfl, ⟨rfl⟩⟩
      case round =>
        obtain ⟨i, hi, rfl, rfl, HW⟩ := hrel
        obtain rfl := HW.out
        have hs := beFrom_take 0 r i
        have hx := HBY.out.at_ i
        have hlt : beFrom 0 (r.take i) < 4294967296 := by
          rcases Nat.lt_or_ge r.length i with hh | hh
          · omega
          · have := HB4.out i hh; have : 256 ^ i ≤ 256 ^ 4 := Nat.pow_le_pow_right (by omega) (by have := HLEN.out; omega); omega
        have hlt2 : i + 1 ≤ r.length → beFrom 0 (r.take (i + 1)) < 4294967296 := by
          intro hh
          have := HB4.out (i + 1) hh; have : 256 ^ (i + 1) ≤ 256 ^ 4 := Nat.pow_le_pow_right (by omega) (by have := HLEN.out; omega); omega
        obtain ⟨m, hm'⟩ : ∃ m, beFrom 0 (r.take i) = m := ⟨_, rfl⟩
        rw [hm'] at hs hlt
        rw [hm']
        have HS := Aside0.mk hs
        have HM := Aside0.mk hm'
        have HL2 := Aside0.mk hlt2
        clear hs hm' hlt2
        by_cases h8 : i < r.length
        · obtain ⟨g', rfl⟩ : ∃ g', gk = g' + 1 := ⟨gk - 1, by omega⟩
          obtain ⟨ad, e1, hc⟩ := HV.out.atN i h8
          subst e1
          obtain ⟨c, hcx⟩ : ∃ c : Nat, r.getD i 0 = (c : Int) := ⟨(r.getD i 0).toNat, by omega⟩
          rw [hcx] at hc hx
          have HC := Aside0.mk hcx
          have hlc : c < 256 := by omega
          clear hcx hx
          have q1 : (i : Int) < (r.length : Int) := by omega
          replace q1 := eq_true q1
          have h0 := i64_or_nat (m * 256) c (by omega) (by omega)
          rw [Int.natCast_mul, or_byte m c hlc] at h0
          have h0' : bits .or .i64 ((m : Int) * 256) (c : Int) = ((256 * m + c : Nat) : Int) := h0
          clear h0
          go_wp2
          go_roundg g'
          case measure => omega
          case rel => exact ⟨i + 1, by omega, by go_num, by rw [HS.out h8, HC.out]; rfl, ⟨rfl⟩⟩
        · have e : i = r.length := by omega
          subst e
          have HN' := Aside0.mk (show be r = m by rw [← HM.out, List.take_length]; rfl)
          clear HM HS HL2
          go_wp2
          go_ret
          obtain ⟨rfl, hv2⟩ := Prod.mk.inj (HF.out.symm.trans HS0.out)
          exact ⟨by rw [HN'.out]; rfl, hv2 ▸ HRB.out, HK.out⟩

    · have hd : decide (n = 1 ∨ n = 2 ∨ n = 4) = false := decide_eq_false hz
      obtain ⟨hF, hT⟩ := rNum_arg (l := l) hz
      obtain ⟨r, hr⟩ : ∃ r : List Int, r = [] := ⟨_, rfl⟩
      have HT : Aside0 (rTake [] 2 n = (r, [], 2)) := ⟨by rw [hr]; exact hT⟩
      have HF : Aside0 (rNum l 0 n = (((be r : Nat) : Int), [], 2)) := ⟨by rw [hr]; exact hF⟩
      have HLEN := Aside0.mk (show r.length ≤ 4 by rw [hr]; simp)
      have HBY := Aside0.mk (show bytesP r by rw [hr]; exact bytesP.nil)
      clear hT hF hz hr
      have HK0 := Aside0.mk (((Kp.refl w g).set_ 0 (.slice none 0 0)).set_ 1 (.int .i64 2))
      have HB0 : Aside0 (Rq Q ((w.setCell ⟨g, 0, none⟩ (.slice none 0 0)).setCell ⟨g, 1, none⟩ (.int .i64 2)) 60 g [] 2) := ⟨⟨none, 0, by simpa using blk_set (blk_set HG.out 0 (.slice none 0 0)) 1 (.int .i64 2), Nat.le_refl _, BC.nil _, by simp⟩⟩
      go_enter Try.func42, Try.ntmps42
      go_wp2_with (first | (go_at_call 63; (with_reducible refine (sized_calls _ _).mono ?_); rintro e w_63 ⟨rfl, rfl⟩; rw [hd]; skip) | (go_at_call 69; (with_reducible refine (otake_q (Q := Q) g [] 2 n r [] 2 _ ?s0 ?s1 ?s2).mono ?_); (case s0 => exact HB0.out); (case s1 => intro h; exact absurd h (by decide)); (case s2 => exact HT.out); rintro e w1 ⟨v, rfl, hv, hr, hk⟩; obtain ⟨Av, cv, rfl, hcv, hrv⟩ := hv; have HV := Aside0.mk hrv; have HRB := Aside0.mk hr; have HK := Aside0.mk (HK0.out.trans hk); clear hr hk hcv))
      have HB4 := Aside0.mk (beFrom_lt HBY.out)
      have hm := hrv.max
      clear hrv
      go_loopg [4, 31] r.length (fun k v4 v31 w' => ∃ i : Nat, i + k = r.length ∧ v31 = .int .i64 i ∧ v4 = .int .i64 (beFrom 0 (r.take i) : Nat) ∧ Aside0 (w1 = w'))
      case atStart => exact ⟨0, by omega, rfl, rfl, ⟨rfl⟩⟩
      case round =>
        obtain ⟨i, hi, rfl, rfl, HW⟩ := hrel
        obtain rfl := HW.out
        have hs := beFrom_take 0 r i
        have hx := HBY.out.at_ i
        have hlt : beFrom 0 (r.take i) < 4294967296 := by
          rcases Nat.lt_or_ge r.length i with hh | hh
          · omega
          · have := HB4.out i hh; have : 256 ^ i ≤ 256 ^ 4 := Nat.pow_le_pow_right (by omega) (by have := HLEN.out; omega); omega
        have hlt2 : i + 1 ≤ r.length → beFrom 0 (r.take (i + 1)) < 4294967296 := by
          intro hh
          have := HB4.out (i + 1) hh; have : 256 ^ (i + 1) ≤ 256 ^ 4 := Nat.pow_le_pow_right (by omega) (by have := HLEN.out; omega); omega
        obtain ⟨m, hm'⟩ : ∃ m, beFrom 0 (r.take i) = m := ⟨_, rfl⟩
        rw [hm'] at hs hlt
        rw [hm']
        have HS := Aside0.mk hs
        have HM := Aside0.mk hm'
        have HL2 := Aside0.mk hlt2
        clear hs hm' hlt2
        by_cases h8 : i < r.length
        · obtain ⟨g', rfl⟩ : ∃ g', gk = g' + 1 := ⟨gk - 1, by omega⟩
          obtain ⟨ad, e1, hc⟩ := HV.out.atN i h8
          subst e1
          obtain ⟨c, hcx⟩ : ∃ c : Nat, r.getD i 0 = (c : Int) := ⟨(r.getD i 0).toNat, by omega⟩
          rw [hcx] at hc hx
          have HC := Aside0.mk hcx
          have hlc : c < 256 := by omega
          clear hcx hx
          have q1 : (i : Int) < (r.length : Int) := by omega
          replace q1 := eq_true q1
          have h0 := i64_or_nat (m * 256) c (by omega) (by omega)
          rw [Int.natCast_mul, or_byte m c hlc] at h0
          have h0' : bits .or .i64 ((m : Int) * 256) (c : Int) = ((256 * m + c : Nat) : Int) := h0
          clear h0
          go_wp2
          go_roundg g'
          case measure => omega
          case rel => exact ⟨i + 1, by omega, by go_num, by rw [HS.out h8, HC.out]; rfl, ⟨rfl⟩⟩
        · have e : i = r.length := by omega
          subst e
          have HN' := Aside0.mk (show be r = m by rw [← HM.out, List.take_length]; rfl)
          clear HM HS HL2
          go_wp2
          go_ret
          obtain ⟨rfl, hv2⟩ := Prod.mk.inj (HF.out.symm.trans HS0.out)
          exact ⟨by rw [HN'.out]; rfl, hv2 ▸ HRB.out, HK.out⟩

  · have z : (e0 == 0) = false := beq_eq_false_iff_ne.mpr he
    obtain ⟨hF, hT⟩ := rNum_err (l := l) (n := n) he
    have HT := Aside0.mk hT
    have HF := Aside0.mk hF
    obtain ⟨r, hr⟩ : ∃ r : List Int, r = [] := ⟨_, rfl⟩
    rw [← hr] at HT HF
    have HLEN := Aside0.mk (show r.length ≤ 4 by rw [hr]; simp)
    have HBY := Aside0.mk (show bytesP r by rw [hr]; exact bytesP.nil)
    have HE := Aside0.mk he
    clear hT hF hr
    go_enter Try.func42, Try.ntmps42
    go_wp2_with (first | (go_at_call 69; (with_reducible refine (otake_q (Q := Q) g l e0 n r l e0 _ ?s0 ?s1 ?s2).mono ?_); (case s0 => exact HB0.out); (case s1 => intro h; exact absurd h HE.out); (case s2 => exact HT.out); rintro e w1 ⟨v, rfl, hv, hr, hk⟩; obtain ⟨Av, cv, rfl, hcv, hrv⟩ := hv; have HV := Aside0.mk hrv; have HRB := Aside0.mk hr; have HK := Aside0.mk (hk); clear hr hk hcv))
    have HB4 := Aside0.mk (beFrom_lt HBY.out)
    have hm := hrv.max
    clear hrv
    go_loopg [4, 31] r.length (fun k v4 v31 w' => ∃ i : Nat, i + k = r.length ∧ v31 = .int .i64 i ∧ v4 = .int .i64 (beFrom 0 (r.take i) : Nat) ∧ Aside0 (w1 = w'))
    case atStart => exact ⟨0, by omega, rfl, rfl, ⟨rfl⟩⟩
    case round =>
      obtain ⟨i, hi, rfl, rfl, HW⟩ := hrel
      obtain rfl := HW.out
      have hs := beFrom_take 0 r i
      have hx := HBY.out.at_ i
      have hlt : beFrom 0 (r.take i) < 4294967296 := by
        rcases Nat.lt_or_ge r.length i with hh | hh
        · omega
        · have := HB4.out i hh; have : 256 ^ i ≤ 256 ^ 4 := Nat.pow_le_pow_right (by omega) (by have := HLEN.out; omega); omega
      have hlt2 : i + 1 ≤ r.length → beFrom 0 (r.take (i + 1)) < 4294967296 := by
        intro hh
        have := HB4.out (i + 1) hh; have : 256 ^ (i + 1) ≤ 256 ^ 4 := Nat.pow_le_pow_right (by omega) (by have := HLEN.out; omega); omega
      obtain ⟨m, hm'⟩ : ∃ m, beFrom 0 (r.take i) = m := ⟨_, rfl⟩
      rw [hm'] at hs hlt
      rw [hm']
      have HS := Aside0.mk hs
      have HM := Aside0.mk hm'
      have HL2 := Aside0.mk hlt2
      clear hs hm' hlt2
      by_cases h8 : i < r.length
      · obtain ⟨g', rfl⟩ : ∃ g', gk = g' + 1 := ⟨gk - 1, by omega⟩
        obtain ⟨ad, e1, hc⟩ := HV.out.atN i h8
        subst e1
        obtain ⟨c, hcx⟩ : ∃ c : Nat, r.getD i 0 = (c : Int) := ⟨(r.getD i 0).toNat, by omega⟩
        rw [hcx] at hc hx
        have HC := Aside0.mk hcx
        have hlc : c < 256 := by omega
        clear hcx hx
        have q1 : (i : Int) < (r.length : Int) := by omega
        replace q1 := eq_true q1
        have h0 := i64_or_nat (m * 256) c (by omega) (by omega)
        rw [Int.natCast_mul, or_byte m c hlc] at h0
        have h0' : bits .or .i64 ((m : Int) * 256) (c : Int) = ((256 * m + c : Nat) : Int) := h0
        clear h0
        go_wp2
        go_roundg g'
        case measure => omega
        case rel => exact ⟨i + 1, by omega, by go_num, by rw [HS.out h8, HC.out]; rfl, ⟨rfl⟩⟩
      · have e : i = r.length := by omega
        subst e
        have HN' := Aside0.mk (show be r = m by rw [← HM.out, List.take_length]; rfl)
        clear HM HS HL2
        go_wp2
        go_ret
        obtain ⟨rfl, hv2⟩ := Prod.mk.inj (HF.out.symm.trans HS0.out)
        exact ⟨by rw [HN'.out]; rfl, hv2 ▸ HRB.out, HK.out⟩

set_option maxHeartbeats 8000000 in
set_option maxRecDepth 100000 in
theorem rread_q (v0 : Value) (l : List Int) (w : World) (h0 : BV w v0 l) (hlen : l.length < 140737488355328) :
    Calls Try.prog 41 #[v0] w fun e w' => ∃ g, e = .returned (.pointer (some ⟨g, 0, none⟩)) ∧ w.heap.size ≤ g ∧ Rq (fun k => k < g ∧ w.heap.size ≤ k) w' 85 g l 0 ∧ Below w.heap.size w w' := by
  have H0 := Aside0.mk h0
  have HL := Aside0.mk hlen
  clear h0 hlen
  go_enter Try.func41, Try.ntmps41
  go_wp2_with (first | (go_at_call 19; (with_reducible refine (copyBytes_v _ l _ ?s0 ?s1).mono ?_); (case s0 => exact H0.out); (case s1 => exact HL.out); rintro e w1 ⟨v, rfl, ho, hb⟩; have HO := Aside0.mk ho; have HB := Aside0.mk hb; clear ho hb; obtain ⟨A0, c0, e0, hc0, hr0⟩ := HO.out.reads; subst e0; have HC := Aside0.mk hc0; have HR := Aside0.mk hr0; clear hc0 hr0))
  go_ret
  exact ⟨_, rfl, HB.out.size, ⟨A0, c0, blk_new w1 _, HC.out, HR.out.alloc _, fun hp a ha => ⟨HR.out.blk_lt hp a ha, HO.out.block_ge _ (by rw [ha]; rfl)⟩⟩, below_alloc HB.out _⟩
set_option maxHeartbeats 8000000 in
set_option maxRecDepth 100000 in
theorem rnum_q {Q : Nat → Prop} (g : Nat) (l : List Int) (e0 n : Int) (x : Int) (st : List Int × Int) (w : World) (h0 : Rq Q w 85 g l e0) (hb : bytesP l) (hs : rNum l e0 n = (x, st)) :
    Calls Try.prog 43 #[.pointer (some ⟨g, 0, none⟩), .int .i64 n] w fun e w' => e = .returned (.int .i64 x) ∧ Rq Q w' 85 g st.1 st.2 ∧ Kp w w' g := by
  have H0 := Aside0.mk h0
  have HBL := Aside0.mk hb
  have HS0 := Aside0.mk hs
  obtain ⟨A0, c0, hg, hc0, hr0, hq0⟩ := h0
  have HQ := Aside0.mk hq0
  clear hq0
  have HG := Aside0.mk hg
  have HR := Aside0.mk hr0
  have HC := Aside0.mk hc0
  have x0 := blk_cell hg 0
  have x1 := blk_cell hg 1
  have y0 := blk_frozen hg 0
  have y1 := blk_frozen hg 1
  have hm := hr0.max
  simp only [List.getElem?_toArray, List.getElem?_cons_zero, List.getElem?_cons_succ] at x0 x1
  clear hr0 hs hg hb
  by_cases he : e0 = 0
  · subst he
    by_cases hz : n = 1 ∨ n = 2 ∨ n = 4
    · rcases hz with rfl | rfl | rfl
      · by_cases hl : l.length < 1
        · have z : decide ((l.length : Int) < 1) = true := decide_eq_true (by omega)
          have z2 : decide (l.length < 1) = true := decide_eq_true hl
          have hv : rNum l 0 1 = (0, [], 3) := by unfold rNum; rw [if_neg (by simp), if_neg (by decide), if_pos (by omega)]
          obtain ⟨rfl, hv2⟩ := Prod.mk.inj (hv.symm.trans HS0.out)
          subst hv2
          clear hv hl
          go_enter Try.func43, Try.ntmps43
          go_wp2_with (first | (go_at_call 70; (with_reducible refine (rfail_c g l 0 3 _ ?s0).mono ?_); (case s0 => exact H0.out.rb); rintro e w1 ⟨rfl, hr, hk⟩; have HRB := Aside0.mk hr; have HK := Aside0.mk hk; clear hr hk))
          go_ret
          exact ⟨rfl, Rq.of_nil HRB.out, HK.out⟩
        · have z : decide ((l.length : Int) < 1) = false := decide_eq_false (by omega)
          have z2 : decide (l.length < 1) = false := decide_eq_false hl
          have hv : rNum l 0 1 = (((be (l.take 1) : Nat) : Int), l.drop 1, 0) := by unfold rNum; rw [if_neg (by simp), if_neg (by decide), if_neg (by omega)]; rfl
          obtain ⟨hx, hv2⟩ := Prod.mk.inj (hv.symm.trans HS0.out)
          subst hv2
          obtain ⟨A', hf, hd, ha⟩ := from_runq A0 l c0 1 (by omega) HC.out
          have hf' : ∀ W : World, (Instr.slice 22 (.slice A0 l.length c0) (some (.int .i64 1)) none none).run Try.prog W = .ok (.slice A' (l.length - 1) (c0 - 1)) W := hf
          have HD := Aside0.mk hd
          have HA := Aside0.mk ha
          clear ha
          have HSL := Aside0.mk (show 1 ≤ l.length by omega)
          have HX := Aside0.mk hx
          have HB4 := Aside0.mk (beFrom_lt HBL.out)
          have hl2 : 1 ≤ l.length := by omega
          clear hv hd hl hx hc0 hf
          go_enter Try.func43, Try.ntmps43
          go_wp2
          go_loopg [5, 6] 1 (fun k v4 v31 w' => ∃ i : Nat, i + k = 1 ∧ v31 = .int .i64 i ∧ v4 = .int .i64 (beFrom 0 (l.take i) : Nat) ∧ Aside0 (w = w'))
          case atStart => exact ⟨0, by omega, rfl, rfl, ⟨rfl⟩⟩
          case round =>
            obtain ⟨i, hi, rfl, rfl, HW⟩ := hrel
            obtain rfl := HW.out
            have hs := beFrom_take 0 l i
            have hx := HBL.out.at_ i
            have hlt : beFrom 0 (l.take i) < 4294967296 := by
              have := HB4.out i (by omega); have : 256 ^ i ≤ 256 ^ 4 := Nat.pow_le_pow_right (by omega) (by omega); omega
            obtain ⟨m, hm'⟩ : ∃ m, beFrom 0 (l.take i) = m := ⟨_, rfl⟩
            rw [hm'] at hs hlt
            rw [hm']
            have HS := Aside0.mk hs
            have HM := Aside0.mk hm'
            clear hs hm'
            by_cases h8 : i < 1
            · obtain ⟨g', rfl⟩ : ∃ g', gk = g' + 1 := ⟨gk - 1, by omega⟩
              obtain ⟨ad, e1, hc⟩ := HR.out.atN i (by omega)
              subst e1
              obtain ⟨c, hcx⟩ : ∃ c : Nat, l.getD i 0 = (c : Int) := ⟨(l.getD i 0).toNat, by omega⟩
              rw [hcx] at hc hx
              have HCC := Aside0.mk hcx
              have hlc : c < 256 := by omega
              clear hcx hx
              have q1 : (i : Int) < (l.length : Int) := by omega
              replace q1 := eq_true q1
              go_wp2
              go_roundg g'
              case measure => omega
              case rel => exact ⟨i + 1, by omega, by go_num, by rw [HS.out (by omega), HCC.out]; go_num, ⟨rfl⟩⟩
            · have e : i = 1 := by omega
              subst e
              have HN' := Aside0.mk (show ((be (l.take 1) : Nat) : Int) = (m : Int) by rw [← HM.out]; rfl)
              clear HM HS
              go_wp2
              go_ret
              have hK : Kp w (w.setCell ⟨g, 0, none⟩ (.slice A' (l.length - 1) (c0 - 1))) g := (Kp.refl w g).set_ 0 _
              rw [← List.drop_one]
              refine ⟨by rw [← HX.out, HN'.out]; rfl, ⟨A', c0 - 1, ?_, by have := HC.out; simp only [List.length_drop]; omega, (HD.out w HR.out).kp HG.out hK, fun hp a ea => by obtain ⟨a0, e0', e1⟩ := HA.out a ea; rw [← e1]; exact HQ.out (by simp only [List.length_drop] at hp; omega) a0 e0'⟩, hK⟩
              rw [List.length_drop]
              simpa using blk_set HG.out 0 (.slice A' (l.length - 1) (c0 - 1))

      · by_cases hl : l.length < 2
        · have z : decide ((l.length : Int) < 2) = true := decide_eq_true (by omega)
          have z2 : decide (l.length < 2) = true := decide_eq_true hl
          have hv : rNum l 0 2 = (0, [], 3) := by unfold rNum; rw [if_neg (by simp), if_neg (by decide), if_pos (by omega)]
          obtain ⟨rfl, hv2⟩ := Prod.mk.inj (hv.symm.trans HS0.out)
          subst hv2
          clear hv hl
          go_enter Try.func43, Try.ntmps43
          go_wp2_with (first | (go_at_call 70; (with_reducible refine (rfail_c g l 0 3 _ ?s0).mono ?_); (case s0 => exact H0.out.rb); rintro e w1 ⟨rfl, hr, hk⟩; have HRB := Aside0.mk hr; have HK := Aside0.mk hk; clear hr hk))
          go_ret
          exact ⟨rfl, Rq.of_nil HRB.out, HK.out⟩
        · have z : decide ((l.length : Int) < 2) = false := decide_eq_false (by omega)
          have z2 : decide (l.length < 2) = false := decide_eq_false hl
          have hv : rNum l 0 2 = (((be (l.take 2) : Nat) : Int), l.drop 2, 0) := by unfold rNum; rw [if_neg (by simp), if_neg (by decide), if_neg (by omega)]; rfl
          obtain ⟨hx, hv2⟩ := Prod.mk.inj (hv.symm.trans HS0.out)
          subst hv2
          obtain ⟨A', hf, hd, ha⟩ := from_runq A0 l c0 2 (by omega) HC.out
          have hf' : ∀ W : World, (Instr.slice 22 (.slice A0 l.length c0) (some (.int .i64 2)) none none).run Try.prog W = .ok (.slice A' (l.length - 2) (c0 - 2)) W := hf
          have HD := Aside0.mk hd
          have HA := Aside0.mk ha
          clear ha
          have HSL := Aside0.mk (show 2 ≤ l.length by omega)
          have HX := Aside0.mk hx
          have HB4 := Aside0.mk (beFrom_lt HBL.out)
          have hl2 : 2 ≤ l.length := by omega
          clear hv hd hl hx hc0 hf
          go_enter Try.func43, Try.ntmps43
          go_wp2
          go_loopg [5, 6] 2 (fun k v4 v31 w' => ∃ i : Nat, i + k = 2 ∧ v31 = .int .i64 i ∧ v4 = .int .i64 (beFrom 0 (l.take i) : Nat) ∧ Aside0 (w = w'))
          case atStart => exact ⟨0, by omega, rfl, rfl, ⟨rfl⟩⟩
          case round =>
            obtain ⟨i, hi, rfl, rfl, HW⟩ := hrel
            obtain rfl := HW.out
            have hs := beFrom_take 0 l i
            have hx := HBL.out.at_ i
            have hlt : beFrom 0 (l.take i) < 4294967296 := by
              have := HB4.out i (by omega); have : 256 ^ i ≤ 256 ^ 4 := Nat.pow_le_pow_right (by omega) (by omega); omega
            obtain ⟨m, hm'⟩ : ∃ m, beFrom 0 (l.take i) = m := ⟨_, rfl⟩
            rw [hm'] at hs hlt
            rw [hm']
            have HS := Aside0.mk hs
            have HM := Aside0.mk hm'
            clear hs hm'
            by_cases h8 : i < 2
            · obtain ⟨g', rfl⟩ : ∃ g', gk = g' + 1 := ⟨gk - 1, by omega⟩
              obtain ⟨ad, e1, hc⟩ := HR.out.atN i (by omega)
              subst e1
              obtain ⟨c, hcx⟩ : ∃ c : Nat, l.getD i 0 = (c : Int) := ⟨(l.getD i 0).toNat, by omega⟩
              rw [hcx] at hc hx
              have HCC := Aside0.mk hcx
              have hlc : c < 256 := by omega
              clear hcx hx
              have q1 : (i : Int) < (l.length : Int) := by omega
              replace q1 := eq_true q1
              go_wp2
              go_roundg g'
              case measure => omega
              case rel => exact ⟨i + 1, by omega, by go_num, by rw [HS.out (by omega), HCC.out]; go_num, ⟨rfl⟩⟩
            · have e : i = 2 := by omega
              subst e
              have HN' := Aside0.mk (show ((be (l.take 2) : Nat) : Int) = (m : Int) by rw [← HM.out]; rfl)
              clear HM HS
              go_wp2
              go_ret
              have hK : Kp w (w.setCell ⟨g, 0, none⟩ (.slice A' (l.length - 2) (c0 - 2))) g := (Kp.refl w g).set_ 0 _
              refine ⟨by rw [← HX.out, HN'.out]; rfl, ⟨A', c0 - 2, ?_, by have := HC.out; simp only [List.length_drop]; omega, (HD.out w HR.out).kp HG.out hK, fun hp a ea => by obtain ⟨a0, e0', e1⟩ := HA.out a ea; rw [← e1]; exact HQ.out (by simp only [List.length_drop] at hp; omega) a0 e0'⟩, hK⟩
              rw [List.length_drop]
              simpa using blk_set HG.out 0 (.slice A' (l.length - 2) (c0 - 2))

      · by_cases hl : l.length < 4
        · have z : decide ((l.length : Int) < 4) = true := decide_eq_true (by omega)
          have z2 : decide (l.length < 4) = true := decide_eq_true hl
          have hv : rNum l 0 4 = (0, [], 3) := by unfold rNum; rw [if_neg (by simp), if_neg (by decide), if_pos (by omega)]
          obtain ⟨rfl, hv2⟩ := Prod.mk.inj (hv.symm.trans HS0.out)
          subst hv2
          clear hv hl
          go_enter Try.func43, Try.ntmps43
          go_wp2_with (first | (go_at_call 70; (with_reducible refine (rfail_c g l 0 3 _ ?s0).mono ?_); (case s0 => exact H0.out.rb); rintro e w1 ⟨rfl, hr, hk⟩; have HRB := Aside0.mk hr; have HK := Aside0.mk hk; clear hr hk))
          go_ret
          exact ⟨rfl, Rq.of_nil HRB.out, HK.out⟩
        · have z : decide ((l.length : Int) < 4) = false := decide_eq_false (by omega)
          have z2 : decide (l.length < 4) = false := decide_eq_false hl
          have hv : rNum l 0 4 = (((be (l.take 4) : Nat) : Int), l.drop 4, 0) := by unfold rNum; rw [if_neg (by simp), if_neg (by decide), if_neg (by omega)]; rfl
          obtain ⟨hx, hv2⟩ := Prod.mk.inj (hv.symm.trans HS0.out)
          subst hv2
          obtain ⟨A', hf, hd, ha⟩ := from_runq A0 l c0 4 (by omega) HC.out
          have hf' : ∀ W : World, (Instr.slice 22 (.slice A0 l.length c0) (some (.int .i64 4)) none none).run Try.prog W = .ok (.slice A' (l.length - 4) (c0 - 4)) W := hf
          have HD := Aside0.mk hd
          have HA := Aside0.mk ha
          clear ha
          have HSL := Aside0.mk (show 4 ≤ l.length by omega)
          have HX := Aside0.mk hx
          have HB4 := Aside0.mk (beFrom_lt HBL.out)
          have hl2 : 4 ≤ l.length := by omega
          clear hv hd hl hx hc0 hf
          go_enter Try.func43, Try.ntmps43
          go_wp2
          go_loopg [5, 6] 4 (fun k v4 v31 w' => ∃ i : Nat, i + k = 4 ∧ v31 = .int .i64 i ∧ v4 = .int .i64 (beFrom 0 (l.take i) : Nat) ∧ Aside0 (w = w'))
          case atStart => exact ⟨0, by omega, rfl, rfl, ⟨rfl⟩⟩
          case round =>
            obtain ⟨i, hi, rfl, rfl, HW⟩ := hrel
            obtain rfl := HW.out
            have hs := beFrom_take 0 l i
            have hx := HBL.out.at_ i
            have hlt : beFrom 0 (l.take i) < 4294967296 := by
              have := HB4.out i (by omega); have : 256 ^ i ≤ 256 ^ 4 := Nat.pow_le_pow_right (by omega) (by omega); omega
            obtain ⟨m, hm'⟩ : ∃ m, beFrom 0 (l.take i) = m := ⟨_, rfl⟩
            rw [hm'] at hs hlt
            rw [hm']
            have HS := Aside0.mk hs
            have HM := Aside0.mk hm'
            clear hs hm'
            by_cases h8 : i < 4
            · obtain ⟨g', rfl⟩ : ∃ g', gk = g' + 1 := ⟨gk - 1, by omega⟩
              obtain ⟨ad, e1, hc⟩ := HR.out.atN i (by omega)
              subst e1
              obtain ⟨c, hcx⟩ : ∃ c : Nat, l.getD i 0 = (c : Int) := ⟨(l.getD i 0).toNat, by omega⟩
              rw [hcx] at hc hx
              have HCC := Aside0.mk hcx
              have hlc : c < 256 := by omega
              clear hcx hx
              have q1 : (i : Int) < (l.length : Int) := by omega
              replace q1 := eq_true q1
              go_wp2
              go_roundg g'
              case measure => omega
              case rel => exact ⟨i + 1, by omega, by go_num, by rw [HS.out (by omega), HCC.out]; go_num, ⟨rfl⟩⟩
            · have e : i = 4 := by omega
              subst e
              have HN' := Aside0.mk (show ((be (l.take 4) : Nat) : Int) = (m : Int) by rw [← HM.out]; rfl)
              clear HM HS
              go_wp2
              go_ret
              have hK : Kp w (w.setCell ⟨g, 0, none⟩ (.slice A' (l.length - 4) (c0 - 4))) g := (Kp.refl w g).set_ 0 _
              refine ⟨by rw [← HX.out, HN'.out]; rfl, ⟨A', c0 - 4, ?_, by have := HC.out; simp only [List.length_drop]; omega, (HD.out w HR.out).kp HG.out hK, fun hp a ea => by obtain ⟨a0, e0', e1⟩ := HA.out a ea; rw [← e1]; exact HQ.out (by simp only [List.length_drop] at hp; omega) a0 e0'⟩, hK⟩
              rw [List.length_drop]
              simpa using blk_set HG.out 0 (.slice A' (l.length - 4) (c0 - 4))

    · have h1 : (n != 1) = true := bne_iff_ne.mpr (by omega)
      have h2 : (n != 2) = true := bne_iff_ne.mpr (by omega)
      have h3 : (n != 4) = true := bne_iff_ne.mpr (by omega)
      have hv : rNum l 0 n = (0, [], 2) := by unfold rNum; rw [if_neg (by simp), if_pos hz]
      obtain ⟨rfl, hv2⟩ := Prod.mk.inj (hv.symm.trans HS0.out)
      subst hv2
      clear hv hz
      go_enter Try.func43, Try.ntmps43
      go_wp2_with (first | (go_at_call 70; (with_reducible refine (rfail_c g l 0 2 _ ?s0).mono ?_); (case s0 => exact H0.out.rb); rintro e w1 ⟨rfl, hr, hk⟩; have HRB := Aside0.mk hr; have HK := Aside0.mk hk; clear hr hk))
      go_ret
      exact ⟨rfl, Rq.of_nil HRB.out, HK.out⟩
  · have z : (e0 != 0) = true := bne_iff_ne.mpr he
    have hv : rNum l e0 n = (0, l, e0) := by unfold rNum; rw [if_pos he]
    obtain ⟨rfl, hv2⟩ := Prod.mk.inj (hv.symm.trans HS0.out)
    subst hv2
    clear hv
    go_enter Try.func43, Try.ntmps43
    go_wp2
    go_ret
    exact ⟨rfl, ⟨A0, c0, HG.out, HC.out, HR.out, HQ.out⟩, Kp.refl _ _⟩

end Go.Proofs.Ytkgjmajabgpadaa
