/- What was put is read as it was: plain law, no Go in sight. -/
import Derived.Test.YtkgjmajabgpadaaS3
namespace Go.Proofs.Ytkgjmajabgpadaa
theorem be_dig1 (x : Int) (h : okN 1 x) : ((be (dig 1 x) : Nat) : Int) = x := by
  have h1 : x < 256 := h.2
  have h0 := h.1
  have e : dig 1 x = [x / 1 % 256] := rfl
  rw [e]
  simp [be, beFrom]
  omega
theorem be_dig2 (x : Int) (h : okN 2 x) : ((be (dig 2 x) : Nat) : Int) = x := by
  have h1 : x < 65536 := h.2
  have h0 := h.1
  have e : dig 2 x = [x / 256 % 256, x / 1 % 256] := rfl
  rw [e]
  simp [be, beFrom]
  omega
theorem be_dig4 (x : Int) (h : okN 4 x) : ((be (dig 4 x) : Nat) : Int) = x := by
  have h1 : x < 4294967296 := h.2
  have h0 := h.1
  have e : dig 4 x = [x / 16777216 % 256, x / 65536 % 256, x / 256 % 256, x / 1 % 256] := rfl
  rw [e]
  simp [be, beFrom]
  omega
theorem be_dig (s : Nat) (hs : s = 1 ∨ s = 2 ∨ s = 4) (x : Int) (h : okN s x) : ((be (dig s x) : Nat) : Int) = x := by
  rcases hs with rfl | rfl | rfl
  · exact be_dig1 x h
  · exact be_dig2 x h
  · exact be_dig4 x h
theorem rNum_dig (s : Nat) (hs : s = 1 ∨ s = 2 ∨ s = 4) (x : Int) (h : okN s x) (rest : List Int) : rNum (dig s x ++ rest) 0 (s : Int) = (x, rest, 0) := by
  have hl : (dig s x).length = s := dig_length s x
  unfold rNum
  rw [if_neg (by simp), if_neg (by omega), if_neg (by rw [List.length_append, hl]; omega), Int.toNat_natCast]
  rw [List.take_append_of_le_length (by omega), List.take_of_length_le (by omega), be_dig s hs x h]
  rw [List.drop_append_of_le_length (by omega), List.drop_of_length_le (by omega), List.nil_append]
theorem rText_put (s rest : List Int) (h : s.length ≤ 65535) : rText (dig 2 s.length ++ s ++ rest) 0 = (s, rest, 0) := by
  have hk : okN 2 (s.length : Int) := ⟨by omega, by show (s.length : Int) < 65536; omega⟩
  have e : rNum (dig 2 s.length ++ (s ++ rest)) 0 2 = ((s.length : Int), s ++ rest, 0) := rNum_dig 2 (by omega) _ hk _
  unfold rText
  rw [List.append_assoc, e]
  unfold rTake
  rw [if_neg (by simp), if_neg (by rw [List.length_append]; omega), Int.toNat_natCast]
  simp
/-- The sizes, one behind the other. -/
def szOf (i : Nat) : Nat := if i % 3 = 0 then 1 else if i % 3 = 1 then 2 else 4
theorem szOf_cases (i : Nat) : szOf i = 1 ∨ szOf i = 2 ∨ szOf i = 4 := by
  unfold szOf
  split
  · exact .inl rfl
  split
  · exact .inr (.inl rfl)
  · exact .inr (.inr rfl)
/-- A number, brought to be of its size. -/
def brOf (l : List Int) (i : Nat) : Int := l.getD i 0 % 2 ^ (8 * szOf i)
theorem brOf_ok (l : List Int) (i : Nat) : okN (szOf i) (brOf l i) := by
  have hp : (0 : Int) < 2 ^ (8 * szOf i) := Int.pow_pos (by omega)
  exact ⟨Int.emod_nonneg _ (by omega), Int.emod_lt_of_pos _ hp⟩
def encN (l : List Int) : Nat → Nat → List Int
  | _, 0 => []
  | j, m + 1 => dig (szOf j) (brOf l j) ++ encN l (j + 1) m
theorem encN_snoc (l : List Int) : ∀ (m j : Nat), encN l j (m + 1) = encN l j m ++ dig (szOf (j + m)) (brOf l (j + m))
  | 0, j => by simp [encN]
  | m + 1, j => by
    rw [encN, encN_snoc l m (j + 1), ← List.append_assoc]
    have e : j + 1 + m = j + (m + 1) := by omega
    rw [e, encN]
theorem encN_len (l : List Int) : ∀ (m j : Nat), (encN l j m).length ≤ 4 * m
  | 0, _ => by simp [encN]
  | m + 1, j => by
    have := encN_len l m (j + 1)
    rw [encN, List.length_append, dig_length]
    have := szOf_cases j
    omega
theorem dig_bytes (s : Nat) (x : Int) : bytesP (dig s x) := by
  intro c hc
  simp only [dig, List.mem_map] at hc
  obtain ⟨j, _, rfl⟩ := hc
  omega
theorem encN_bytes (l : List Int) : ∀ (m j : Nat), bytesP (encN l j m)
  | 0, _ => bytesP.nil
  | m + 1, j => (dig_bytes _ _).app (encN_bytes l m (j + 1))
theorem rNum_enc (l : List Int) (j m : Nat) (tl : List Int) : rNum (encN l j (m + 1) ++ tl) 0 (szOf j : Int) = (brOf l j, encN l (j + 1) m ++ tl, 0) := by
  rw [encN, List.append_assoc, rNum_dig _ (szOf_cases j) _ (brOf_ok l j)]
theorem put_br (b l : List Int) (j : Nat) : putS b (szOf j : Int) [brOf l j] = (b ++ dig (szOf j) (brOf l j), 0) := by
  have := putS_good b (szOf j) (szOf j) rfl [brOf l j] (szOf_cases j) (fun x hx => by simp only [List.mem_singleton] at hx; subst hx; exact brOf_ok l j)
  simpa using this
end Go.Proofs.Ytkgjmajabgpadaa
