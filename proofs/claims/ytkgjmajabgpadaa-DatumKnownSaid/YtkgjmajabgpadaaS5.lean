/- The sum tells a frame whose bits were turned: plain law, no Go in sight. -/
import Derived.Test.YtkgjmajabgpadaaS4
namespace Go.Proofs.Ytkgjmajabgpadaa
theorem xor_top (x : Nat) (h : x < 65536) : 65536 ^^^ x = 65536 + x := by
  have h1 : (65536 ^^^ x) / 2 ^ 16 = 1 := by
    rw [Nat.xor_div_two_pow, Nat.div_eq_of_lt (show x < 2 ^ 16 from h)]
    rfl
  have h2 : (65536 ^^^ x) % 2 ^ 16 = x := by
    rw [Nat.xor_mod_two_pow, Nat.mod_eq_of_lt (show x < 2 ^ 16 from h)]
    simp
  have h3 := Nat.div_add_mod (65536 ^^^ x) (2 ^ 16)
  rw [h1, h2] at h3
  omega
theorem top_bit (n : Nat) (h : n < 65536) : n.testBit 15 = decide (32768 ≤ n) := by
  rw [Nat.testBit_eq_decide_div_mod_eq]
  rcases Nat.lt_or_ge n 32768 with h1 | h1
  · have : n / 2 ^ 15 = 0 := Nat.div_eq_of_lt (by omega)
    rw [this]
    simp; omega
  · have : n / 2 ^ 15 = 1 := by omega
    rw [this]
    simp [h1]
theorem crcBit_eq (n : Nat) (h : n < 65536) : crcBit n = (2 * n) ^^^ (if n.testBit 15 then 69665 else 0) := by
  rw [top_bit n h]
  unfold crcBit
  by_cases h1 : n < 32768
  · rw [if_pos h1, if_neg (by simp; omega)]
    simp
  · rw [if_neg h1, if_pos (by simp; omega)]
    have e : 2 * n = 65536 ^^^ (2 * n - 65536) := by rw [xor_top _ (by omega)]; omega
    have e2 : (69665 : Nat) = 65536 ^^^ 4129 := by decide
    obtain ⟨y, hy⟩ : ∃ y, 2 * n - 65536 = y := ⟨_, rfl⟩
    rw [hy] at e ⊢
    rw [e, e2, Nat.xor_comm 65536 y, Nat.xor_assoc, ← Nat.xor_assoc 65536 65536, Nat.xor_self, Nat.zero_xor]
theorem two_mul_xor (a b : Nat) : 2 * (a ^^^ b) = (2 * a) ^^^ (2 * b) := by
  have h := Nat.shiftLeft_xor_distrib (a := a) (b := b) (i := 1)
  simpa [Nat.shiftLeft_eq, Nat.mul_comm] using h
theorem xlc (a b c : Nat) : a ^^^ (b ^^^ c) = b ^^^ (a ^^^ c) := by rw [← Nat.xor_assoc, Nat.xor_comm a b, Nat.xor_assoc]
theorem crcBit_xor (a b : Nat) (ha : a < 65536) (hb : b < 65536) : crcBit (a ^^^ b) = crcBit a ^^^ crcBit b := by
  have hab : a ^^^ b < 65536 := Nat.xor_lt_two_pow (n := 16) ha hb
  rw [crcBit_eq _ hab, crcBit_eq a ha, crcBit_eq b hb, two_mul_xor, Nat.testBit_xor]
  obtain ⟨x, hx⟩ : ∃ x, 2 * a = x := ⟨_, rfl⟩
  obtain ⟨y, hy⟩ : ∃ y, 2 * b = y := ⟨_, rfl⟩
  rw [hx, hy]
  obtain ⟨z, hz⟩ : ∃ z : Nat, 69665 = z := ⟨_, rfl⟩
  rw [hz]
  cases a.testBit 15 <;> cases b.testBit 15
  · simp
  · simp [Nat.xor_assoc]
  · simp only [Bool.true_xor, Bool.not_false, if_true, Bool.false_eq_true, if_false, Nat.xor_zero, Nat.xor_assoc, Nat.xor_comm y z]
  · simp only [Bool.xor_self, Bool.false_eq_true, if_false, if_true, Nat.xor_zero]
    rw [Nat.xor_assoc, xlc z y z, Nat.xor_self, Nat.xor_zero]
theorem crcBits_xor (a b : Nat) (ha : a < 65536) (hb : b < 65536) : ∀ k, crcBits k (a ^^^ b) = crcBits k a ^^^ crcBits k b
  | 0 => rfl
  | k + 1 => by
    show crcBit (crcBits k (a ^^^ b)) = _
    rw [crcBits_xor a b ha hb k, crcBit_xor _ _ (crcBits_lt ha k) (crcBits_lt hb k)]
    rfl
theorem crcBits_add (n : Nat) (j : Nat) : ∀ k, crcBits (k + j) n = crcBits k (crcBits j n)
  | 0 => by rw [Nat.zero_add]; rfl
  | k + 1 => by
    rw [Nat.succ_add]
    show crcBit (crcBits (k + j) n) = crcBit (crcBits k (crcBits j n))
    rw [crcBits_add n j k]
theorem crcBits_zero : ∀ k, crcBits k 0 = 0
  | 0 => rfl
  | k + 1 => by
    show crcBit (crcBits k 0) = 0
    rw [crcBits_zero k]
    rfl
theorem crcBit_ne (a : Nat) (ha : a < 65536) (h : a ≠ 0) : crcBit a ≠ 0 := by
  unfold crcBit
  split
  · omega
  · intro hx
    have h2 : (2 * a - 65536) = 4129 := by
      have h3 : (2 * a - 65536) ^^^ 4129 ^^^ 4129 = 4129 := by rw [hx, Nat.zero_xor]
      rwa [Nat.xor_assoc, Nat.xor_self, Nat.xor_zero] at h3
    omega
theorem crcBits_ne (a : Nat) (ha : a < 65536) (h : a ≠ 0) : ∀ k, crcBits k a ≠ 0
  | 0 => h
  | k + 1 => crcBit_ne _ (crcBits_lt ha k) (crcBits_ne a ha h k)
theorem crcBits_up : ∀ i, i ≤ 15 → crcBits i (2 ^ (15 - i)) = 32768
  | 0, _ => rfl
  | i + 1, h => by
    have e : crcBits (i + 1) (2 ^ (15 - (i + 1))) = crcBits i (crcBit (2 ^ (15 - (i + 1)))) := crcBits_add _ 1 i
    have e2 : crcBit (2 ^ (15 - (i + 1))) = 2 ^ (15 - i) := by
      have hlt : 2 ^ (15 - (i + 1)) < 2 ^ 15 := Nat.pow_lt_pow_right (by omega) (by omega)
      unfold crcBit
      rw [if_pos (by simpa using hlt), show 15 - i = (15 - (i + 1)) + 1 by omega, Nat.pow_succ, Nat.mul_comm]
    rw [e, e2, crcBits_up i (by omega)]
/-- The sum over bytes is linear in its beginning. -/
theorem crcByte_xor (s d c e : Nat) (hs : s < 65536) (hd : d < 65536) (hc : c < 256) (he : e < 256) : crcByte (s ^^^ d) (c ^^^ e) = crcByte s c ^^^ crcByte d e := by
  unfold crcByte
  have h1 : (c ^^^ e) * 256 = (c * 256) ^^^ (e * 256) := by
    have h := Nat.shiftLeft_xor_distrib (a := c) (b := e) (i := 8)
    simpa [Nat.shiftLeft_eq] using h
  have h2 : (s ^^^ d) ^^^ ((c * 256) ^^^ (e * 256)) = (s ^^^ c * 256) ^^^ (d ^^^ e * 256) := by
    rw [Nat.xor_assoc, Nat.xor_assoc, ← Nat.xor_assoc d, Nat.xor_comm d, Nat.xor_assoc (c * 256)]
  rw [h1, h2, crcBits_xor _ _ (crcStart_lt hs hc) (crcStart_lt hd he)]
theorem crcFrom_xor : ∀ (t : List Int) (x y : Nat), x < 65536 → y < 65536 → bytesP t → crcFrom (x ^^^ y) t = crcFrom x t ^^^ crcBits (8 * t.length) y
  | [], _, _, _, _, _ => rfl
  | c :: t, x, y, hx, hy, h => by
    have hc := h c (by simp)
    have hc2 : c.toNat < 256 := by omega
    have h1 := crcByte_xor x y c.toNat 0 hx hy hc2 (by omega)
    rw [Nat.xor_zero] at h1
    have h2 : crcByte y 0 = crcBits 8 y := by unfold crcByte; simp
    rw [crcFrom_cons, crcFrom_cons, h1, crcFrom_xor t _ _ (crcByte_lt hx hc2) (by rw [h2]; exact crcBits_lt hy 8) (fun a ha => h a (List.mem_cons_of_mem _ ha)), h2, ← crcBits_add]
    exact congrArg (fun k => crcFrom (crcByte x c.toNat) t ^^^ crcBits k y) (by simp only [List.length_cons]; omega)
/-- Bit number pos of the bytes, turned (the highest bit of each byte first). -/
def flipI (b : List Int) (pos : Nat) : List Int := b.set (pos / 8) (((b.getD (pos / 8) 0).toNat ^^^ 2 ^ (7 - pos % 8) : Nat) : Int)
theorem flipI_length (b : List Int) (pos : Nat) : (flipI b pos).length = b.length := by simp [flipI]
theorem flip_byte (c : Nat) (r : Nat) (hc : c < 256) : c ^^^ 2 ^ (7 - r) < 256 := by
  refine Nat.xor_lt_two_pow (n := 8) hc ?_
  exact Nat.pow_lt_pow_right (by omega) (by omega)
theorem flipI_bytes {b : List Int} (h : bytesP b) (pos : Nat) : bytesP (flipI b pos) := by
  intro c hc
  unfold flipI at hc
  rcases List.mem_or_eq_of_mem_set hc with hc | rfl
  · exact h c hc
  · have := h.at_ (pos / 8)
    have := flip_byte (b.getD (pos / 8) 0).toNat (pos % 8) (by omega)
    omega
theorem crcByte_unit (r : Nat) (hr : r < 8) : crcByte 0 (2 ^ (7 - r)) = crcBits (8 - r) 32768 := by
  unfold crcByte
  rw [Nat.zero_xor]
  have e : 2 ^ (7 - r) * 256 = 2 ^ (15 - r) := by rw [show (256 : Nat) = 2 ^ 8 from rfl, ← Nat.pow_add]; congr 1; omega
  rw [e, ← crcBits_up r (by omega), ← crcBits_add]
  exact congrArg (fun k => crcBits k (2 ^ (15 - r))) (by omega)
theorem crcFrom_flip : ∀ (b : List Int) (s pos : Nat), s < 65536 → bytesP b → pos < 8 * b.length → crcFrom s (flipI b pos) = crcFrom s b ^^^ crcBits (8 * b.length - pos) 32768
  | [], _, _, _, _, hp => by simp at hp
  | c :: t, s, pos, hs, h, hp => by
    have hc := h c (by simp)
    have hc2 : c.toNat < 256 := by omega
    have ht : bytesP t := fun a ha => h a (List.mem_cons_of_mem _ ha)
    rcases Nat.lt_or_ge pos 8 with h8 | h8
    · have e0 : pos / 8 = 0 := by omega
      have e1 : pos % 8 = pos := by omega
      have ef : flipI (c :: t) pos = ((c.toNat ^^^ 2 ^ (7 - pos) : Nat) : Int) :: t := by unfold flipI; rw [e0, e1]; simp
      have hu : 2 ^ (7 - pos) < 2 ^ 8 := Nat.pow_lt_pow_right (by omega) (by omega)
      have h1 := crcByte_xor s 0 c.toNat (2 ^ (7 - pos)) hs (by omega) hc2 hu
      rw [Nat.xor_zero, crcByte_unit pos h8] at h1
      have hb3 : crcBits (8 - pos) 32768 < 65536 := crcBits_lt (by omega) _
      have hb4 : crcByte s c.toNat < 65536 := crcByte_lt hs hc2
      obtain ⟨u, hu2⟩ : ∃ u, crcBits (8 - pos) 32768 = u := ⟨_, rfl⟩
      have e5 : crcBits (8 * (c :: t).length - pos) 32768 = crcBits (8 * t.length) u := by
        rw [← hu2, ← crcBits_add]
        exact congrArg (fun k => crcBits k 32768) (by simp only [List.length_cons]; omega)
      rw [hu2] at h1 hb3
      have h2 := crcFrom_xor t _ u hb4 hb3 ht
      rw [ef, crcFrom_cons, crcFrom_cons, Int.toNat_natCast, h1, h2, e5]
    · have e0 : pos / 8 = (pos - 8) / 8 + 1 := by omega
      have e1 : pos % 8 = (pos - 8) % 8 := by omega
      have ef : flipI (c :: t) pos = c :: flipI t (pos - 8) := by unfold flipI; rw [e0, e1]; simp
      have e5 : 8 * (c :: t).length - pos = 8 * t.length - (pos - 8) := by simp only [List.length_cons]; omega
      have h2 := crcFrom_flip t (crcByte s c.toNat) (pos - 8) (crcByte_lt hs hc2) ht (by simp only [List.length_cons] at hp; omega)
      rw [ef, crcFrom_cons, crcFrom_cons, h2, e5]
/-- A frame's last two bytes are the sum of those ahead just when the sum over all is none. -/
theorem crc_two (s hi lo : Nat) (hs : s < 65536) (hh : hi < 256) (hl : lo < 256) : crcByte (crcByte s hi) lo = crcBits 16 (s ^^^ (256 * hi + lo)) := by
  have e1 : 256 * hi + lo = (hi * 256) ^^^ lo := by
    have h1 : ((hi * 256) ^^^ lo) / 2 ^ 8 = hi := by
      rw [Nat.xor_div_two_pow, Nat.div_eq_of_lt (show lo < 2 ^ 8 from hl), show hi * 256 / 2 ^ 8 = hi by omega]
      simp
    have h2 : ((hi * 256) ^^^ lo) % 2 ^ 8 = lo := by
      rw [Nat.xor_mod_two_pow, Nat.mod_eq_of_lt (show lo < 2 ^ 8 from hl), show hi * 256 % 2 ^ 8 = 0 by omega]
      simp
    have h3 := Nat.div_add_mod ((hi * 256) ^^^ lo) (2 ^ 8)
    rw [h1, h2] at h3
    omega
  have e2 : ∀ k, k ≤ 8 → crcBits k lo = lo * 2 ^ k := by
    intro k hk
    induction k with
    | zero => simp [crcBits]
    | succ k ih =>
      have ih := ih (by omega)
      have h4 : lo * 2 ^ k < 32768 := by
        have : 2 ^ k ≤ 2 ^ 7 := Nat.pow_le_pow_right (by omega) (by omega)
        have := Nat.mul_le_mul (show lo ≤ 255 by omega) this
        omega
      show crcBit (crcBits k lo) = _
      rw [ih]
      unfold crcBit
      rw [if_pos h4, Nat.pow_succ, Nat.mul_comm 2, Nat.mul_assoc]
  have e3 : lo * 256 = crcBits 8 lo := (e2 8 (Nat.le_refl _)).symm
  have hx : s ^^^ hi * 256 < 65536 := crcStart_lt hs hh
  unfold crcByte
  rw [e3, ← crcBits_xor _ _ hx (by omega), ← crcBits_add, e1, ← Nat.xor_assoc]
theorem frame_ok {b : List Int} {n : Nat} (hn : b.length = n + 2) (hb : bytesP b) : be (b.drop n) = sumS (b.take n) ↔ crcFrom 65535 b = 0 := by
  have hx := hb.at_ n
  have hy := hb.at_ (n + 1)
  have hS : crcFrom 65535 (b.take n) < 65536 := crcFrom_lt _ (by omega) (hb.take n)
  have e : b = b.take n ++ [b.getD n 0, b.getD (n + 1) 0] := by rw [← drop_two hn, List.take_append_drop]
  have e2 : crcFrom 65535 b = crcBits 16 (crcFrom 65535 (b.take n) ^^^ (256 * (b.getD n 0).toNat + (b.getD (n + 1) 0).toNat)) := by
    rw [← crc_two _ _ _ hS (by omega) (by omega)]
    have e3 : crcFrom 65535 (b.take n ++ [b.getD n 0, b.getD (n + 1) 0]) = crcByte (crcByte (crcFrom 65535 (b.take n)) (b.getD n 0).toNat) (b.getD (n + 1) 0).toNat := by
      rw [show b.take n ++ [b.getD n 0, b.getD (n + 1) 0] = (b.take n ++ [b.getD n 0]) ++ [b.getD (n + 1) 0] by simp, crcFrom_snoc, crcFrom_snoc]
    rw [← e] at e3
    exact e3
  have e4 : be (b.drop n) = 256 * (b.getD n 0).toNat + (b.getD (n + 1) 0).toNat := by rw [drop_two hn, be_two]
  rw [e4, e2]
  show _ = crcFrom 65535 (b.take n) ↔ _
  obtain ⟨S, hS2⟩ : ∃ S, crcFrom 65535 (b.take n) = S := ⟨_, rfl⟩
  obtain ⟨Y, hY⟩ : ∃ Y, 256 * (b.getD n 0).toNat + (b.getD (n + 1) 0).toNat = Y := ⟨_, rfl⟩
  rw [hS2] at hS ⊢
  have hYl : Y < 65536 := by omega
  rw [hY]
  constructor
  · rintro rfl
    rw [Nat.xor_self, crcBits_zero]
  · intro h
    have h5 : S ^^^ Y = 0 := Classical.byContradiction fun hne => crcBits_ne _ (Nat.xor_lt_two_pow (n := 16) hS hYl) hne 16 h
    have h6 : (S ^^^ Y) ^^^ S = S := by rw [h5, Nat.zero_xor]
    rw [Nat.xor_comm S Y, Nat.xor_assoc, Nat.xor_self, Nat.xor_zero] at h6
    exact h6
/-- Of 16 bits, those that are to be turned: the bytes, the word of what was turned, whether any was. -/
def bitOf (bits i : Nat) : Bool := decide (bits / 2 ^ i % 2 = 1)
def turnS (b : List Int) (p bits : Nat) : Nat → List Int
  | 0 => b
  | i + 1 => if bitOf bits i then flipI (turnS b p bits i) (p + i) else turnS b p bits i
def turnW (bits : Nat) : Nat → Nat
  | 0 => 0
  | i + 1 => if bitOf bits i then turnW bits i ^^^ 2 ^ (15 - i) else turnW bits i
def turnT (bits : Nat) : Nat → Bool
  | 0 => false
  | i + 1 => turnT bits i || bitOf bits i
theorem turnS_length (b : List Int) (p bits : Nat) : ∀ i, (turnS b p bits i).length = b.length
  | 0 => rfl
  | i + 1 => by
    unfold turnS
    split
    · rw [flipI_length, turnS_length b p bits i]
    · exact turnS_length b p bits i
theorem turnS_bytes {b : List Int} (h : bytesP b) (p bits : Nat) : ∀ i, bytesP (turnS b p bits i)
  | 0 => h
  | i + 1 => by
    unfold turnS
    split
    · exact flipI_bytes (turnS_bytes h p bits i) _
    · exact turnS_bytes h p bits i
theorem turnS_same (b : List Int) (p bits : Nat) : ∀ i, turnT bits i = false → turnS b p bits i = b
  | 0, _ => rfl
  | i + 1, h => by
    unfold turnT at h
    rw [Bool.or_eq_false_iff] at h
    unfold turnS
    rw [h.2]
    exact turnS_same b p bits i h.1
theorem pow_lt16 (i : Nat) : 2 ^ (15 - i) < 65536 := Nat.pow_lt_pow_right (m := 15 - i) (n := 16) (by omega) (by omega)
theorem turnW_lt (bits : Nat) : ∀ i, turnW bits i < 65536
  | 0 => by show (0 : Nat) < 65536; omega
  | i + 1 => by
    unfold turnW
    split
    · exact Nat.xor_lt_two_pow (n := 16) (turnW_lt bits i) (pow_lt16 i)
    · exact turnW_lt bits i
theorem turnW_low (bits : Nat) : ∀ i j, j + i ≤ 15 → (turnW bits i).testBit j = false
  | 0, j, _ => by simp [turnW]
  | i + 1, j, h => by
    unfold turnW
    split
    · rw [Nat.testBit_xor, turnW_low bits i j (by omega), Nat.testBit_two_pow, decide_eq_false (by omega)]
      rfl
    · exact turnW_low bits i j (by omega)
theorem turnW_ne (bits : Nat) : ∀ i, i ≤ 16 → turnT bits i = true → turnW bits i ≠ 0
  | 0, _, h => by simp [turnT] at h
  | i + 1, hi, h => by
    unfold turnW
    split
    · intro h0
      have h1 := congrArg (fun x => Nat.testBit x (15 - i)) h0
      simp only [Nat.testBit_xor, turnW_low bits i (15 - i) (by omega), Nat.testBit_two_pow, decide_true, Nat.zero_testBit, Bool.false_xor] at h1
      cases h1
    · rename_i hb
      unfold turnT at h
      rw [Bool.eq_false_iff.mpr hb, Bool.or_false] at h
      exact turnW_ne bits i (by omega) h
theorem turnS_crc {b : List Int} (hb : bytesP b) (p bits : Nat) : ∀ i, i ≤ 16 → p + i ≤ 8 * b.length → crcFrom 65535 (turnS b p bits i) = crcFrom 65535 b ^^^ crcBits (8 * b.length - p) (turnW bits i)
  | 0, _, _ => by
    show crcFrom 65535 b = crcFrom 65535 b ^^^ crcBits _ 0
    rw [crcBits_zero, Nat.xor_zero]
  | i + 1, hi, hp => by
    have ih := turnS_crc hb p bits i (by omega) (by omega)
    unfold turnS turnW
    split
    · have h1 := crcFrom_flip (turnS b p bits i) 65535 (p + i) (by omega) (turnS_bytes hb p bits i) (by rw [turnS_length]; omega)
      have h2 : crcBits (8 * b.length - p) (2 ^ (15 - i)) = crcBits (8 * b.length - (p + i)) 32768 := by
        rw [← crcBits_up i (by omega), ← crcBits_add]
        exact congrArg (fun k => crcBits k (2 ^ (15 - i))) (by omega)
      rw [h1, ih, turnS_length, crcBits_xor _ _ (turnW_lt bits i) (pow_lt16 i), h2, Nat.xor_assoc]
    · exact ih
/-- A frame that was turned is none. -/
theorem turned_open {b : List Int} {n : Nat} (hn : b.length = n + 2) (h1 : ¬ 512 < b.length) (h2 : ¬ b.length < 3) (hb : bytesP b) (h0 : crcFrom 65535 b = 0) (p bits i : Nat) (hi : i ≤ 16) (hp : p + i ≤ 8 * b.length) (ht : turnT bits i = true) : openS (turnS b p bits i) = (0, [], 30) := by
  have hl := turnS_length b p bits i
  have hc := turnS_crc hb p bits i hi hp
  rw [h0, Nat.zero_xor] at hc
  refine openS_sum (n := n) (by omega) (by omega) (by omega) ?_
  rw [frame_ok (n := n) (by omega) (turnS_bytes hb p bits i), hc]
  exact crcBits_ne _ (turnW_lt bits i) (turnW_ne bits i hi ht) _
theorem sealed_frame (kind : Int) (body : List Int) (h0 : 0 ≤ kind) (h1 : kind < 256) (hb : bytesP body) (hl : body.length ≤ 509) : (kind :: body ++ dig 2 (sumS (kind :: body) : Nat)).length = (body.length + 1) + 2 ∧ bytesP (kind :: body ++ dig 2 (sumS (kind :: body) : Nat)) ∧ crcFrom 65535 (kind :: body ++ dig 2 (sumS (kind :: body) : Nat)) = 0 ∧ openS (kind :: body ++ dig 2 (sumS (kind :: body) : Nat)) = (kind, body, 0) := by
  have hkb : bytesP (kind :: body) := hb.cons h0 h1
  have hs := sumS_lt hkb
  have hok : okN 2 ((sumS (kind :: body) : Nat) : Int) := ⟨by omega, by show ((sumS (kind :: body) : Nat) : Int) < 65536; omega⟩
  have hlen : (kind :: body ++ dig 2 (sumS (kind :: body) : Nat)).length = (body.length + 1) + 2 := by simp [dig_length]
  have hbb : bytesP (kind :: body ++ dig 2 (sumS (kind :: body) : Nat)) := hkb.app (dig_bytes _ _)
  have ht : (kind :: body ++ dig 2 (sumS (kind :: body) : Nat)).take (body.length + 1) = kind :: body := by
    rw [List.take_append_of_le_length (by simp), List.take_of_length_le (by simp)]
  have hd : (kind :: body ++ dig 2 (sumS (kind :: body) : Nat)).drop (body.length + 1) = dig 2 (sumS (kind :: body) : Nat) := by
    rw [List.drop_append_of_le_length (by simp), List.drop_of_length_le (by simp), List.nil_append]
  have hbe : be ((kind :: body ++ dig 2 (sumS (kind :: body) : Nat)).drop (body.length + 1)) = sumS ((kind :: body ++ dig 2 (sumS (kind :: body) : Nat)).take (body.length + 1)) := by
    rw [ht, hd]
    have := be_dig2 _ hok
    omega
  refine ⟨hlen, hbb, (frame_ok hlen hbb).1 hbe, ?_⟩
  rw [openS_ok hlen (by omega) (by omega) hbe, ht]
  rfl
end Go.Proofs.Ytkgjmajabgpadaa
