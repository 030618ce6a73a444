import Derived.Test.YtkgjmajabgpadaaWWords
namespace Go.Proofs.Ytkgjmajabgpadaa
set_option linter.unusedVariables false
set_option linter.unusedSimpArgs false
open Go.RowKit Go.Proofs.YtkgjmajabgpadaaW.PrintWords

def dig (s : Nat) (x : Int) : List Int := (List.range s).map fun j => x / 2 ^ (8 * (s - 1 - j)) % 256
def okN (s : Nat) (x : Int) : Prop := 0 ≤ x ∧ x < 2 ^ (8 * s)
instance (s : Nat) (x : Int) : Decidable (okN s x) := by unfold okN; infer_instance
/-- What Put answers: the bytes and the error's number. -/
def putS (b : List Int) (size : Int) (l : List Int) : List Int × Int :=
  if size = 1 ∨ size = 2 ∨ size = 4 then (if ∀ x ∈ l, okN size.toNat x then (b ++ l.flatMap (dig size.toNat), 0) else ([], 9)) else ([], 2)
theorem dig_length (s : Nat) (x : Int) : (dig s x).length = s := by simp [dig]
theorem putS_good (b : List Int) (size : Int) (s : Nat) (e : size = s) (l : List Int) (hs : s = 1 ∨ s = 2 ∨ s = 4) (h : ∀ x ∈ l, okN s x) : putS b size l = (b ++ l.flatMap (dig s), 0) := by
  subst e
  unfold putS
  rw [if_pos (by omega), if_pos (by simpa using h)]
  simp
theorem putS_bad (b : List Int) (size : Int) (s : Nat) (e : size = s) (l : List Int) (hs : s = 1 ∨ s = 2 ∨ s = 4) (x : Int) (hx : x ∈ l) (h : ¬ okN s x) : putS b size l = ([], 9) := by
  subst e
  unfold putS
  rw [if_pos (by omega), if_neg (fun hh => h (by simpa using hh x hx))]
theorem putS_no (b : List Int) (size : Int) (l : List Int) (hs : ¬ (size = 1 ∨ size = 2 ∨ size = 4)) : putS b size l = ([], 2) := by
  unfold putS
  rw [if_neg hs]
theorem flat_len (s : Nat) (hs : s ≤ 4) (l : List Int) (i : Nat) (hi : i ≤ l.length) : ((l.take i).flatMap (dig s)).length ≤ 4 * i := by
  have : ((l.take i).flatMap (dig s)).length = i * s := by
    rw [List.length_flatMap, List.map_congr_left (g := fun _ => s) (fun x _ => dig_length s x)]
    rw [List.map_const', List.sum_replicate_nat, List.length_take, Nat.min_eq_left hi]
  rw [this, Nat.mul_comm]
  exact Nat.mul_le_mul_right _ hs
theorem flat_snoc (s : Nat) (l : List Int) (i : Nat) (hi : i < l.length) : (l.take (i + 1)).flatMap (dig s) = (l.take i).flatMap (dig s) ++ dig s (l.getD i 0) := by
  rw [List.take_succ_eq_append_getElem hi, List.flatMap_append]
  simp [List.getD_eq_getElem?_getD, hi]
theorem good_snoc (s : Nat) (l : List Int) (i : Nat) (hi : i < l.length) (h : ∀ x ∈ l.take i, okN s x) (hx : okN s (l.getD i 0)) : ∀ x ∈ l.take (i + 1), okN s x := by
  intro x hm
  rw [List.take_succ_eq_append_getElem hi, List.mem_append] at hm
  rcases hm with hm | hm
  · exact h x hm
  · simp only [List.mem_singleton] at hm
    subst hm
    simpa [List.getD_eq_getElem?_getD, hi] using hx
theorem getD_mem (l : List Int) (i : Nat) (hi : i < l.length) : l.getD i 0 ∈ l := by
  simp [List.getD_eq_getElem?_getD, hi]

end Go.Proofs.Ytkgjmajabgpadaa
