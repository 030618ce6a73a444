/- What a datum's Parse answers: plain law, no Go in sight. -/
import Derived.Test.YtkgjmajabgpadaaS6
namespace Go.Proofs.Ytkgjmajabgpadaa
theorem openS_bytes {b : List Int} (h : bytesP b) : bytesP (openS b).2.1 := by
  unfold openS
  split
  · exact bytesP.nil
  split
  · exact bytesP.nil
  split
  · exact (h.take _).drop _
  · exact bytesP.nil
theorem openS_kind {b : List Int} (h : bytesP b) : 0 ≤ (openS b).1 ∧ (openS b).1 < 256 := by
  unfold openS
  split
  · exact ⟨by decide, by decide⟩
  split
  · exact ⟨by decide, by decide⟩
  split
  · exact h.at_ 0
  · exact ⟨by decide, by decide⟩
theorem openS_len (b : List Int) : (openS b).2.1.length ≤ 512 := by
  unfold openS
  split
  · simp
  split
  · simp
  split
  · rw [List.length_drop, List.length_take]; omega
  · simp
theorem rNum1_range {l : List Int} {e : Int} (h : bytesP l) : 0 ≤ (rNum l e 1).1 ∧ (rNum l e 1).1 < 256 := by
  unfold rNum
  split
  · exact ⟨by show (0 : Int) ≤ 0; omega, by show (0 : Int) < 256; omega⟩
  split
  · exact ⟨by show (0 : Int) ≤ 0; omega, by show (0 : Int) < 256; omega⟩
  split
  · exact ⟨by show (0 : Int) ≤ 0; omega, by show (0 : Int) < 256; omega⟩
  · rename_i h1 h2 h3
    have h4 := be_lt (h.take 1)
    have hl : (l.take 1).length = 1 := by rw [List.length_take]; omega
    rw [hl] at h4
    refine ⟨?_, ?_⟩
    · show (0 : Int) ≤ ((be (l.take (1 : Int).toNat) : Nat) : Int); omega
    · show ((be (l.take 1) : Nat) : Int) < 256; omega
/-- A reader's state behind j readings of one byte, and what the j-th read. -/
def numsH (st : List Int × Int) : Nat → List Int × Int
  | 0 => st
  | j + 1 => (rNum (numsH st j).1 (numsH st j).2 1).2
def valH (st : List Int × Int) (j : Nat) : Int := (rNum (numsH st j).1 (numsH st j).2 1).1
theorem numsH_bytes {st : List Int × Int} (h : bytesP st.1) : ∀ j, bytesP (numsH st j).1
  | 0 => h
  | j + 1 => rNum_bytes (numsH_bytes h j)
theorem numsH_eq (st : List Int × Int) (j : Nat) : rNum (numsH st j).1 (numsH st j).2 1 = (valH st j, numsH st (j + 1)) := rfl
theorem valH_range {st : List Int × Int} (h : bytesP st.1) (j : Nat) : 0 ≤ valH st j ∧ valH st j < 256 := rNum1_range (numsH_bytes h j)
def d1 (b : List Int) : Int × List Int × Int := rNum b 0 1
def d2 (b : List Int) : Int × List Int × Int := rNum (d1 b).2.1 (d1 b).2.2 1
def d3 (b : List Int) : Int × List Int × Int := rNum (d2 b).2.1 (d2 b).2.2 4
def endD (b : List Int) : Int := rEnd (numsH (d3 b).2 3).1 (numsH (d3 b).2 3).2
def goodD (k : Int) (b : List Int) : Prop := k = 1 ∧ endD b = 0 ∧ okD (d1 b).1 (d2 b).1 (d3 b).1
instance (k : Int) (b : List Int) : Decidable (goodD k b) := by unfold goodD; infer_instance
abbrev Dat := (Int × Int × Int) × (Int × Int × Int)
def noD : Dat := ((0, 0, 0), (0, 0, 0))
def theD (b : List Int) : Dat := (((d1 b).1, (d2 b).1, (d3 b).1), (valH (d3 b).2 0, valH (d3 b).2 1, valH (d3 b).2 2))
def parseD (b : List Int) : Dat × Int :=
  if (openS b).2.2 ≠ 0 then (noD, (openS b).2.2) else if goodD (openS b).1 (openS b).2.1 then (theD (openS b).2.1, 0) else (noD, 4)
theorem parseD_err {b : List Int} {k e : Int} {body : List Int} (h : openS b = (k, body, e)) (he : e ≠ 0) : parseD b = (noD, e) := by
  unfold parseD
  rw [h]
  exact if_pos he
theorem parseD_ok {b : List Int} {k : Int} {body : List Int} (h : openS b = (k, body, 0)) (hg : goodD k body) : parseD b = (theD body, 0) := by
  unfold parseD
  rw [h, if_neg (by simp)]
  exact if_pos hg
theorem parseD_no {b : List Int} {k : Int} {body : List Int} (h : openS b = (k, body, 0)) (hg : ¬ goodD k body) : parseD b = (noD, 4) := by
  unfold parseD
  rw [h, if_neg (by simp)]
  exact if_neg hg
theorem datD_eq {k : Int} {body : List Int} {x1 x2 x3 : Int} {s1 s2 s3 : List Int × Int} (h1 : rNum body 0 1 = (x1, s1)) (h2 : rNum s1.1 s1.2 1 = (x2, s2)) (h3 : rNum s2.1 s2.2 4 = (x3, s3)) :
    theD body = ((x1, x2, x3), (valH s3 0, valH s3 1, valH s3 2)) ∧ (goodD k body ↔ k = 1 ∧ rEnd (numsH s3 3).1 (numsH s3 3).2 = 0 ∧ okD x1 x2 x3) := by
  have e1 : d1 body = (x1, s1) := h1
  have e2 : d2 body = (x2, s2) := by unfold d2; rw [e1]; exact h2
  have e3 : d3 body = (x3, s3) := by unfold d3; rw [e2]; exact h3
  unfold theD goodD endD
  rw [e1, e2, e3]
  exact ⟨rfl, Iff.rfl⟩
theorem u8_same {n : Int} (h : 0 ≤ n ∧ n < 256) : IntKind.u8.wrap n = n := by
  obtain ⟨h0, h1⟩ := h
  simp only [IntKind.wrap, IntKind.bits, IntKind.signed]
  simp
  omega
end Go.Proofs.Ytkgjmajabgpadaa
