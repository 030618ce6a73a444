/- What a reader answers, as functions on bytes and an error's number: plain law, no Go in sight. -/
import Derived.Test.YtkgjmajabgpadaaS2
namespace Go.Proofs.Ytkgjmajabgpadaa
/-- The number that bytes are. -/
def beFrom (n : Nat) (l : List Int) : Nat := l.foldl (fun n c => 256 * n + c.toNat) n
def be (l : List Int) : Nat := beFrom 0 l
theorem beFrom_take (n : Nat) (l : List Int) (i : Nat) (hi : i < l.length) : beFrom n (l.take (i + 1)) = 256 * beFrom n (l.take i) + (l.getD i 0).toNat := by
  unfold beFrom
  rw [List.take_succ_eq_append_getElem hi, List.foldl_append, List.getD_eq_getElem?_getD, List.getElem?_eq_getElem hi]
  rfl
theorem beFrom_lt {l : List Int} (h : bytesP l) : ∀ i, i ≤ l.length → beFrom 0 (l.take i) < 256 ^ i
  | 0, _ => by simp [beFrom]
  | i + 1, hi => by
    rw [beFrom_take 0 l i (by omega), Nat.pow_succ]
    have := beFrom_lt h i (by omega)
    have hx := h.at_ i
    omega
theorem be_lt {l : List Int} (h : bytesP l) : be l < 256 ^ l.length := by
  have := beFrom_lt h l.length (Nat.le_refl _)
  rwa [List.take_length] at this
/-- A reader: what is left, the error. -/
def rTake (l : List Int) (e n : Int) : List Int × List Int × Int :=
  if e ≠ 0 then ([], l, e) else if (l.length : Int) < n then ([], [], 3) else (l.take n.toNat, l.drop n.toNat, 0)
def rNum (l : List Int) (e n : Int) : Int × List Int × Int :=
  if e ≠ 0 then (0, l, e) else if ¬ (n = 1 ∨ n = 2 ∨ n = 4) then (0, [], 2) else if (l.length : Int) < n then (0, [], 3) else ((be (l.take n.toNat) : Nat), l.drop n.toNat, 0)
def rText (l : List Int) (e : Int) : List Int × List Int × Int :=
  rTake (rNum l e 2).2.1 (rNum l e 2).2.2 (rNum l e 2).1
def rEnd (l : List Int) (e : Int) : Int := if e = 0 ∧ 0 < l.length then 4 else e
theorem rNum_bytes {l : List Int} {e n : Int} (h : bytesP l) : bytesP (rNum l e n).2.1 := by
  unfold rNum
  split
  · exact h
  split
  · exact bytesP.nil
  split
  · exact bytesP.nil
  · exact h.drop _
theorem rTake_bytes {l : List Int} {e n : Int} (h : bytesP l) : bytesP (rTake l e n).2.1 ∧ bytesP (rTake l e n).1 := by
  unfold rTake
  split
  · exact ⟨h, bytesP.nil⟩
  split
  · exact ⟨bytesP.nil, bytesP.nil⟩
  · exact ⟨h.drop _, h.take _⟩
theorem rText_bytes {l : List Int} {e : Int} (h : bytesP l) : bytesP (rText l e).2.1 := (rTake_bytes (rNum_bytes h)).1
theorem rNum_range {l : List Int} {e n : Int} (h : bytesP l) : 0 ≤ (rNum l e n).1 ∧ (rNum l e n).1 < 4294967296 := by
  unfold rNum
  split
  · exact ⟨by show (0 : Int) ≤ 0; omega, by show (0 : Int) < 4294967296; omega⟩
  split
  · exact ⟨by show (0 : Int) ≤ 0; omega, by show (0 : Int) < 4294967296; omega⟩
  split
  · exact ⟨by show (0 : Int) ≤ 0; omega, by show (0 : Int) < 4294967296; omega⟩
  · rename_i h1 h2 h3
    have h4 := be_lt (h.take n.toNat)
    have hl : (l.take n.toNat).length = n.toNat := by rw [List.length_take]; omega
    rw [hl] at h4
    have h5 : 256 ^ n.toNat ≤ 256 ^ 4 := Nat.pow_le_pow_right (by omega) (by omega)
    refine ⟨?_, ?_⟩
    · show (0 : Int) ≤ ((be (l.take n.toNat) : Nat) : Int); omega
    · show ((be (l.take n.toNat) : Nat) : Int) < 4294967296; omega
theorem or_byte (m c : Nat) (hc : c < 256) : (m * 256) ||| c = 256 * m + c := by
  have := Nat.two_pow_add_eq_or_of_lt (i := 8) (b := c) hc m
  rw [Nat.mul_comm m 256]
  exact this.symm
/-- A reading of a number is a taking of its bytes. -/
theorem rNum_err {l : List Int} {e n : Int} (h : e ≠ 0) : rNum l e n = (((be [] : Nat) : Int), l, e) ∧ rTake l e n = ([], l, e) := by
  unfold rNum rTake
  rw [if_pos h, if_pos h]
  exact ⟨rfl, rfl⟩
theorem rNum_arg {l : List Int} {n : Int} (h : ¬ (n = 1 ∨ n = 2 ∨ n = 4)) : rNum l 0 n = (((be [] : Nat) : Int), [], 2) ∧ rTake [] 2 n = ([], [], 2) := by
  unfold rNum rTake
  rw [if_neg (by simp), if_pos h, if_pos (by simp)]
  exact ⟨rfl, rfl⟩
theorem rNum_take {l : List Int} {n : Int} (h : n = 1 ∨ n = 2 ∨ n = 4) (hb : bytesP l) : ∃ r l' e', rTake l 0 n = (r, l', e') ∧ rNum l 0 n = (((be r : Nat) : Int), l', e') ∧ r.length ≤ 4 ∧ bytesP r := by
  unfold rNum rTake
  by_cases hl : (l.length : Int) < n
  · refine ⟨[], [], 3, ?_, ?_, by simp, bytesP.nil⟩
    · rw [if_neg (by simp), if_pos hl]
    · rw [if_neg (by simp), if_neg (fun hh => hh h), if_pos hl]
      rfl
  · refine ⟨l.take n.toNat, l.drop n.toNat, 0, ?_, ?_, by rw [List.length_take]; omega, hb.take _⟩
    · rw [if_neg (by simp), if_neg hl]
    · rw [if_neg (by simp), if_neg (fun hh => hh h), if_neg hl]
/-- What Open answers. -/
def openS (b : List Int) : Int × List Int × Int :=
  if 512 < b.length then (0, [], 5) else if b.length < 3 then (0, [], 3) else
    if be (b.drop (b.length - 2)) = sumS (b.take (b.length - 2)) then (b.getD 0 0, (b.take (b.length - 2)).drop 1, 0) else (0, [], 30)
theorem openS_limit {b : List Int} (h : 512 < b.length) : openS b = (0, [], 5) := by unfold openS; rw [if_pos h]
theorem openS_trunc {b : List Int} (h : b.length < 3) : openS b = (0, [], 3) := by unfold openS; rw [if_neg (by omega), if_pos h]
theorem openS_sum {b : List Int} {n : Nat} (hn : b.length = n + 2) (h1 : ¬ 512 < b.length) (h2 : ¬ b.length < 3) (h : ¬ be (b.drop n) = sumS (b.take n)) : openS b = (0, [], 30) := by
  unfold openS; rw [if_neg h1, if_neg h2, show b.length - 2 = n by omega, if_neg h]
theorem openS_ok {b : List Int} {n : Nat} (hn : b.length = n + 2) (h1 : ¬ 512 < b.length) (h2 : ¬ b.length < 3) (h : be (b.drop n) = sumS (b.take n)) : openS b = (b.getD 0 0, (b.take n).drop 1, 0) := by
  unfold openS; rw [if_neg h1, if_neg h2, show b.length - 2 = n by omega, if_pos h]
theorem drop_two {b : List Int} {n : Nat} (hn : b.length = n + 2) : b.drop n = [b.getD n 0, b.getD (n + 1) 0] := by
  rw [List.drop_eq_getElem_cons (by omega), List.drop_eq_getElem_cons (by omega), List.drop_eq_nil_of_le (by omega)]
  simp [List.getD_eq_getElem?_getD, show n < b.length by omega, show n + 1 < b.length by omega]
theorem be_two (x y : Int) : be [x, y] = 256 * x.toNat + y.toNat := by simp [be, beFrom]
theorem rNum_len (l : List Int) (e n : Int) : (rNum l e n).2.1.length ≤ l.length := by
  unfold rNum
  split
  · exact Nat.le_refl _
  split
  · simp
  split
  · simp
  · simp
theorem rTake_len (l : List Int) (e n : Int) : (rTake l e n).2.1.length ≤ l.length := by
  unfold rTake
  split
  · exact Nat.le_refl _
  split
  · simp
  · simp
theorem rText_len (l : List Int) (e : Int) : (rText l e).2.1.length ≤ l.length := Nat.le_trans (rTake_len _ _ _) (rNum_len _ _ _)
end Go.Proofs.Ytkgjmajabgpadaa
