/- What a probe's functions answer: plain law, no Go in sight. -/
import Derived.Test.YtkgjmajabgpadaaS9
namespace Go.Proofs.Ytkgjmajabgpadaa
/-- May a switch's port be one? -/
def endP (s p : Int) : Prop := (1 ≤ s ∧ s ≤ 6) ∧ 1 ≤ p ∧ p ≤ 4
instance (s p : Int) : Decidable (endP s p) := by unfold endP; infer_instance
/-- May a probe be? -/
def okP (a b c d n : Int) : Prop := endP a b ∧ ((c = 0 ∧ d = 0) ∨ endP c d) ∧ 0 ≤ n ∧ n ≤ 65535
instance (a b c d n : Int) : Decidable (okP a b c d n) := by unfold okP; infer_instance
def checkP (a b c d n : Int) : Int := if okP a b c d n then 0 else 2
theorem checkP_ok {a b c d n : Int} (h : okP a b c d n) : checkP a b c d n = 0 := if_pos h
theorem checkP_no {a b c d n : Int} (h : ¬ okP a b c d n) : checkP a b c d n = 2 := if_neg h
/-- A probe's numbers, each with its size. -/
def fldP (a b c d n : Int) (j : Nat) : Int := if j = 0 then a else if j = 1 then b else if j = 2 then c else if j = 3 then d else n
def szP (j : Nat) : Nat := if j = 4 then 2 else 1
theorem szP_cases (j : Nat) : szP j = 1 ∨ szP j = 2 ∨ szP j = 4 := by unfold szP; split <;> simp
theorem okP_fld {a b c d n : Int} (h : okP a b c d n) (j : Nat) (hj : j < 5) : okN (szP j) (fldP a b c d n j) := by
  obtain ⟨⟨h1, h2⟩, h3, h4⟩ := h
  have e1 : (2 : Int) ^ (8 * 1) = 256 := rfl
  have e2 : (2 : Int) ^ (8 * 2) = 65536 := rfl
  have hcd : (0 ≤ c ∧ c ≤ 6) ∧ 0 ≤ d ∧ d ≤ 4 := by
    rcases h3 with ⟨rfl, rfl⟩ | ⟨h5, h6⟩ <;> omega
  have : j = 0 ∨ j = 1 ∨ j = 2 ∨ j = 3 ∨ j = 4 := by omega
  rcases this with rfl | rfl | rfl | rfl | rfl
  · show 0 ≤ a ∧ a < 256; omega
  · show 0 ≤ b ∧ b < 256; omega
  · show 0 ≤ c ∧ c < 256; omega
  · show 0 ≤ d ∧ d < 256; omega
  · show 0 ≤ n ∧ n < 65536; omega
/-- The bytes of those numbers that stand in a row. -/
def preP (a b c d n : Int) (l : List Nat) : List Int := l.flatMap fun j => dig (szP j) (fldP a b c d n j)
theorem preP_snoc (a b c d n : Int) (l : List Nat) (j : Nat) : preP a b c d n (l ++ [j]) = preP a b c d n l ++ dig (szP j) (fldP a b c d n j) := by simp [preP]
theorem preP_len (a b c d n : Int) : ∀ l : List Nat, (preP a b c d n l).length ≤ 2 * l.length
  | [] => by simp [preP]
  | j :: l => by
    have := preP_len a b c d n l
    have e : preP a b c d n (j :: l) = dig (szP j) (fldP a b c d n j) ++ preP a b c d n l := by simp [preP]
    have h2 : szP j ≤ 2 := by unfold szP; split <;> omega
    rw [e, List.length_append, dig_length, List.length_cons]
    omega
def bodyP (a b c d n : Int) : List Int := preP a b c d n [0, 1, 2, 3, 4]
theorem bodyP_eq (a b c d n : Int) : bodyP a b c d n = dig 1 a ++ (dig 1 b ++ (dig 1 c ++ (dig 1 d ++ dig 2 n))) := by
  simp [bodyP, preP, szP, fldP]
theorem bodyP_len (a b c d n : Int) : (bodyP a b c d n).length = 6 := by rw [bodyP_eq]; simp [dig_length]
theorem bodyP_bytes (a b c d n : Int) : bytesP (bodyP a b c d n) := by
  rw [bodyP_eq]
  exact (dig_bytes 1 a).app ((dig_bytes 1 b).app ((dig_bytes 1 c).app ((dig_bytes 1 d).app (dig_bytes 2 n))))
def bytesPr (a b c d n : Int) : List Int × Int := if okP a b c d n then (frameOf 2 (bodyP a b c d n), 0) else ([], 2)
theorem bytesPr_ok {a b c d n : Int} (k : okP a b c d n) : bytesPr a b c d n = (frameOf 2 (bodyP a b c d n), 0) := if_pos k
theorem bytesPr_no {a b c d n : Int} (k : ¬ okP a b c d n) : bytesPr a b c d n = ([], 2) := if_neg k
theorem sealP_ok {a b c d n : Int} (k : okP a b c d n) : sealS 2 (bodyP a b c d n) = bytesPr a b c d n := by
  rw [bytesPr_ok k, sealS_ok 2 _ (by omega) (by rw [bodyP_len]; omega)]
  rfl
theorem put_step {a b c d n : Int} (h : okP a b c d n) (l : List Nat) (j : Nat) (hj : j < 5) : putS (preP a b c d n l) (szP j : Int) [fldP a b c d n j] = (preP a b c d n (l ++ [j]), 0) := by
  have := putS_good (preP a b c d n l) (szP j : Int) (szP j) rfl [fldP a b c d n j] (szP_cases j) (fun x hx => by
    simp only [List.mem_cons, List.not_mem_nil, or_false] at hx
    subst hx
    exact okP_fld h j hj)
  rw [this, preP_snoc]
  simp
theorem putP_four {a b c d n : Int} (h : okP a b c d n) : putS [] 1 [a, b, c, d] = (preP a b c d n [0, 1, 2, 3], 0) := by
  have := putS_good [] 1 1 rfl [a, b, c, d] (by omega) (fun x hx => by
    simp only [List.mem_cons, List.not_mem_nil, or_false] at hx
    rcases hx with rfl | rfl | rfl | rfl
    · exact okP_fld h 0 (by omega)
    · exact okP_fld h 1 (by omega)
    · exact okP_fld h 2 (by omega)
    · exact okP_fld h 3 (by omega))
  rw [this]
  simp [preP, szP, fldP]
theorem putP_last {a b c d n : Int} (h : okP a b c d n) : putS (preP a b c d n [0, 1, 2, 3]) 2 [n] = (bodyP a b c d n, 0) := put_step h [0, 1, 2, 3] 4 (by omega)
/-! ### Parse -/
abbrev Prb := Int × Int × Int × Int × Int
def noP : Prb := (0, 0, 0, 0, 0)
/-- A reader's state behind the readings of those numbers; what the next one reads. -/
def stP (st : List Int × Int) : List Nat → List Int × Int
  | [] => st
  | j :: l => stP (rNum st.1 st.2 (szP j)).2 l
theorem stP_snoc (j : Nat) : ∀ (l : List Nat) (st : List Int × Int), stP st (l ++ [j]) = (rNum (stP st l).1 (stP st l).2 (szP j)).2
  | [], _ => rfl
  | _ :: l, st => stP_snoc j l _
theorem stP_bytes : ∀ (l : List Nat) (st : List Int × Int), bytesP st.1 → bytesP (stP st l).1
  | [], _, h => h
  | _ :: l, _, h => stP_bytes l _ (rNum_bytes h)
def valP (st : List Int × Int) (l : List Nat) (j : Nat) : Int := (rNum (stP st l).1 (stP st l).2 (szP j)).1
theorem stP_eq (st : List Int × Int) (l : List Nat) (j : Nat) : rNum (stP st l).1 (stP st l).2 (szP j : Int) = (valP st l j, stP st (l ++ [j])) := by rw [stP_snoc]; rfl
def x0P (b : List Int) : Int := valP (b, 0) [] 0
def x1P (b : List Int) : Int := valP (b, 0) [0] 1
def x2P (b : List Int) : Int := valP (b, 0) [0, 1] 2
def x3P (b : List Int) : Int := valP (b, 0) [0, 1, 2] 3
def x4P (b : List Int) : Int := valP (b, 0) [0, 1, 2, 3] 4
def lastP (b : List Int) : List Int × Int := stP (b, 0) [0, 1, 2, 3, 4]
def theP (b : List Int) : Prb := (x0P b, x1P b, x2P b, x3P b, x4P b)
def goodP (k : Int) (b : List Int) : Prop := k = 2 ∧ rEnd (lastP b).1 (lastP b).2 = 0 ∧ okP (x0P b) (x1P b) (x2P b) (x3P b) (x4P b)
instance (k : Int) (b : List Int) : Decidable (goodP k b) := by unfold goodP; infer_instance
def parseP (b : List Int) : Prb × Int :=
  if (openS b).2.2 ≠ 0 then (noP, (openS b).2.2) else if goodP (openS b).1 (openS b).2.1 then (theP (openS b).2.1, 0) else (noP, 4)
theorem parseP_err {b : List Int} {k e : Int} {body : List Int} (h : openS b = (k, body, e)) (he : e ≠ 0) : parseP b = (noP, e) := by
  unfold parseP
  rw [h]
  exact if_pos he
theorem parseP_ok {b : List Int} {k : Int} {body : List Int} (h : openS b = (k, body, 0)) (hg : goodP k body) : parseP b = (theP body, 0) := by
  unfold parseP
  rw [h, if_neg (by simp)]
  exact if_pos hg
theorem parseP_no {b : List Int} {k : Int} {body : List Int} (h : openS b = (k, body, 0)) (hg : ¬ goodP k body) : parseP b = (noP, 4) := by
  unfold parseP
  rw [h, if_neg (by simp)]
  exact if_neg hg
/-! ### Found -/
def foundP (a b c d n tt port : Int) : Prb × Int :=
  if ¬ okP a b c d n then (noP, 2) else if c ≠ 0 then (noP, 180) else if ¬ endP tt port then (noP, 2) else ((a, b, tt, port, n), 0)
/-- A probe's bytes are read as it was. -/
theorem parse_bytesP {a b c d n : Int} (ok : okP a b c d n) : parseP (frameOf 2 (bodyP a b c d n)) = ((a, b, c, d, n), 0) := by
  have ho := frameOf_open 2 (bodyP a b c d n) (by omega) (by omega) (bodyP_bytes a b c d n) (by rw [bodyP_len]; omega)
  have o0 : okN 1 a := okP_fld ok 0 (by omega)
  have o1 : okN 1 b := okP_fld ok 1 (by omega)
  have o2 : okN 1 c := okP_fld ok 2 (by omega)
  have o3 : okN 1 d := okP_fld ok 3 (by omega)
  have o4 : okN 2 n := okP_fld ok 4 (by omega)
  have n0 := rNum_dig 1 (by omega) a o0 (dig 1 b ++ (dig 1 c ++ (dig 1 d ++ dig 2 n)))
  have n1 := rNum_dig 1 (by omega) b o1 (dig 1 c ++ (dig 1 d ++ dig 2 n))
  have n2 := rNum_dig 1 (by omega) c o2 (dig 1 d ++ dig 2 n)
  have n3 := rNum_dig 1 (by omega) d o3 (dig 2 n)
  have n4 := rNum_dig 2 (by omega) n o4 []
  rw [List.append_nil] at n4
  have t0 : stP (bodyP a b c d n, 0) [0] = (dig 1 b ++ (dig 1 c ++ (dig 1 d ++ dig 2 n)), 0) := by rw [bodyP_eq]; exact congrArg Prod.snd n0
  have t1 : stP (bodyP a b c d n, 0) [0, 1] = (dig 1 c ++ (dig 1 d ++ dig 2 n), 0) := by rw [show [0, 1] = [0] ++ [1] from rfl, stP_snoc, t0]; exact congrArg Prod.snd n1
  have t2 : stP (bodyP a b c d n, 0) [0, 1, 2] = (dig 1 d ++ dig 2 n, 0) := by rw [show [0, 1, 2] = [0, 1] ++ [2] from rfl, stP_snoc, t1]; exact congrArg Prod.snd n2
  have t3 : stP (bodyP a b c d n, 0) [0, 1, 2, 3] = (dig 2 n, 0) := by rw [show [0, 1, 2, 3] = [0, 1, 2] ++ [3] from rfl, stP_snoc, t2]; exact congrArg Prod.snd n3
  have t4 : lastP (bodyP a b c d n) = ([], 0) := by unfold lastP; rw [show [0, 1, 2, 3, 4] = [0, 1, 2, 3] ++ [4] from rfl, stP_snoc, t3]; exact congrArg Prod.snd n4
  have e0 : x0P (bodyP a b c d n) = a := by unfold x0P valP; rw [bodyP_eq]; exact congrArg Prod.fst n0
  have e1 : x1P (bodyP a b c d n) = b := by unfold x1P valP; rw [t0]; exact congrArg Prod.fst n1
  have e2 : x2P (bodyP a b c d n) = c := by unfold x2P valP; rw [t1]; exact congrArg Prod.fst n2
  have e3 : x3P (bodyP a b c d n) = d := by unfold x3P valP; rw [t2]; exact congrArg Prod.fst n3
  have e4 : x4P (bodyP a b c d n) = n := by unfold x4P valP; rw [t3]; exact congrArg Prod.fst n4
  have hg : goodP 2 (bodyP a b c d n) := by
    refine ⟨rfl, ?_, ?_⟩
    · rw [t4]; rfl
    · rw [e0, e1, e2, e3, e4]; exact ok
  rw [parseP_ok ho hg]
  unfold theP
  rw [e0, e1, e2, e3, e4]
end Go.Proofs.Ytkgjmajabgpadaa
