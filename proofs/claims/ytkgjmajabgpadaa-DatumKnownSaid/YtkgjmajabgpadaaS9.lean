/- Bits of one byte of a frame are turned: plain law, no Go in sight. -/
import Derived.Test.YtkgjmajabgpadaaS8
namespace Go.Proofs.Ytkgjmajabgpadaa
/-- A row with the bits k of its i-th byte turned. -/
def turnB (b : List Int) (i k : Nat) : List Int := b.set i ((((b.getD i 0).toNat ^^^ k : Nat)) : Int)
theorem turnB_length (b : List Int) (i k : Nat) : (turnB b i k).length = b.length := by simp [turnB]
theorem turnB_bytes {b : List Int} (h : bytesP b) (i k : Nat) (hk : k < 256) : bytesP (turnB b i k) := by
  intro c hc
  rcases List.mem_or_eq_of_mem_set hc with h1 | rfl
  · exact h c h1
  · have hx := h.at_ i
    have : (b.getD i 0).toNat ^^^ k < 256 := Nat.xor_lt_two_pow (n := 8) (by omega) hk
    omega
theorem turnB_zero {b : List Int} (h : bytesP b) (i : Nat) (hi : i < b.length) : turnB b i 0 = b := by
  unfold turnB
  have hx := h.at_ i
  rw [Nat.xor_zero, show (((b.getD i 0).toNat : Nat) : Int) = b.getD i 0 by omega]
  rw [List.getD_eq_getElem?_getD, List.getElem?_eq_getElem hi]
  simp
theorem crcFrom_turnB : ∀ (b : List Int) (s i k : Nat), s < 65536 → bytesP b → i < b.length → k < 256 → k ≠ 0 → ∃ D, D ≠ 0 ∧ crcFrom s (turnB b i k) = crcFrom s b ^^^ D
  | [], _, _, _, _, _, hi, _, _ => by simp at hi
  | c :: t, s, 0, k, hs, hb, _, hk, hk0 => by
    have hx := hb c (by simp)
    have ht : bytesP t := fun x h => hb x (by simp [h])
    have e1 : turnB (c :: t) 0 k = ((c.toNat ^^^ k : Nat) : Int) :: t := rfl
    have h1 := crcByte_xor s 0 c.toNat k hs (by omega) (by omega) hk
    rw [Nat.xor_zero] at h1
    have h2 : crcByte 0 k ≠ 0 := by
      unfold crcByte
      rw [Nat.zero_xor]
      exact crcBits_ne _ (by omega) (by omega) 8
    have h3 : crcByte 0 k < 65536 := crcByte_lt (by omega) hk
    refine ⟨crcBits (8 * t.length) (crcByte 0 k), crcBits_ne _ h3 h2 _, ?_⟩
    rw [e1, crcFrom_cons, crcFrom_cons, Int.toNat_natCast, h1, crcFrom_xor t _ _ (crcByte_lt hs (by omega)) h3 ht]
  | c :: t, s, i + 1, k, hs, hb, hi, hk, hk0 => by
    have hx := hb c (by simp)
    have ht : bytesP t := fun x h => hb x (by simp [h])
    have e1 : turnB (c :: t) (i + 1) k = c :: turnB t i k := rfl
    obtain ⟨D, h1, h2⟩ := crcFrom_turnB t (crcByte s c.toNat) i k (crcByte_lt hs (by omega)) ht (by simpa using hi) hk hk0
    exact ⟨D, h1, by rw [e1, crcFrom_cons, crcFrom_cons, h2]⟩
/-- A frame of which bits of one byte were turned is none. -/
theorem turnB_open {b : List Int} {n : Nat} (hn : b.length = n + 2) (h1 : ¬ 512 < b.length) (h2 : ¬ b.length < 3) (hb : bytesP b) (h0 : crcFrom 65535 b = 0) (i k : Nat) (hi : i < b.length) (hk : k < 256) (hk0 : k ≠ 0) : openS (turnB b i k) = (0, [], 30) := by
  have hl := turnB_length b i k
  obtain ⟨D, hD, hc⟩ := crcFrom_turnB b 65535 i k (by omega) hb hi hk hk0
  rw [h0, Nat.zero_xor] at hc
  refine openS_sum (n := n) (by omega) (by omega) (by omega) ?_
  rw [frame_ok (n := n) (by omega) (turnB_bytes hb i k hk), hc]
  exact hD
theorem frameOf_len (k : Int) (body : List Int) (h0 : 0 ≤ k) (h1 : k < 256) (hb : bytesP body) (hl : body.length ≤ 509) : (frameOf k body).length = body.length + 3 := (sealed_frame k body h0 h1 hb hl).1
theorem frameOf_turned (q : Int) (body : List Int) (h0 : 0 ≤ q) (h1 : q < 256) (hb : bytesP body) (hl : body.length ≤ 509) (i k : Nat) (hi : i < (frameOf q body).length) (hk : k < 256) (hk0 : k ≠ 0) : openS (turnB (frameOf q body) i k) = (0, [], 30) := by
  obtain ⟨e1, e2, e3, _⟩ := sealed_frame q body h0 h1 hb hl
  have e1 : (frameOf q body).length = (body.length + 1) + 2 := e1
  exact turnB_open e1 (by omega) (by omega) e2 e3 i k hi hk hk0
theorem sealS_bytes {k : Int} {body r : List Int} {e : Int} (h0 : 0 ≤ k) (h1 : k < 256) (hb : bytesP body) (h : sealS k body = (r, e)) : bytesP r ∧ r.length ≤ 512 := by
  by_cases hl : 509 < body.length
  · rw [sealS_limit k body (by omega) hl] at h
    obtain ⟨rfl, rfl⟩ := Prod.mk.inj h
    exact ⟨bytesP.nil, by simp⟩
  · rw [sealS_ok k body (by omega) hl] at h
    obtain ⟨rfl, rfl⟩ := Prod.mk.inj h
    obtain ⟨e1, e2, _⟩ := sealed_frame k body h0 h1 hb (by omega)
    exact ⟨e2, by omega⟩
theorem parseD_bad {b : List Int} {d : Dat} {e : Int} (h : parseD b = (d, e)) (he : e ≠ 0) : d = noD := by
  obtain ⟨k, body, e1, ho⟩ : ∃ k body e1, openS b = (k, body, e1) := ⟨_, _, _, rfl⟩
  by_cases h1 : e1 = 0
  · subst h1
    by_cases hg : goodD k body
    · have := (parseD_ok ho hg).symm.trans h
      exact absurd (Prod.mk.inj this).2.symm he
    · have := (parseD_no ho hg).symm.trans h
      exact (Prod.mk.inj this).1.symm
  · have := (parseD_err ho h1).symm.trans h
    exact (Prod.mk.inj this).1.symm
end Go.Proofs.Ytkgjmajabgpadaa
