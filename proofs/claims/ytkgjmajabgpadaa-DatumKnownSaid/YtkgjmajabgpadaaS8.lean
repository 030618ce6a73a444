/- A datum's bytes are read as it was, and the other way round: plain law, no Go in sight. -/
import Derived.Test.YtkgjmajabgpadaaS7
namespace Go.Proofs.Ytkgjmajabgpadaa
theorem dig_be1 (a : Int) (h : 0 ≤ a ∧ a < 256) : dig 1 ((be [a] : Nat) : Int) = [a] := by
  have e : ∀ x : Int, dig 1 x = [x / 1 % 256] := fun _ => rfl
  have e2 : ((be [a] : Nat) : Int) = a := by simp [be, beFrom]; omega
  rw [e, e2]
  simp
  omega
theorem dig_be2 (a b : Int) (h : 0 ≤ a ∧ a < 256) (k : 0 ≤ b ∧ b < 256) : dig 2 ((be [a, b] : Nat) : Int) = [a, b] := by
  have e : ∀ x : Int, dig 2 x = [x / 256 % 256, x / 1 % 256] := fun _ => rfl
  have e2 : ((be [a, b] : Nat) : Int) = 256 * a + b := by simp [be, beFrom]; omega
  rw [e, e2]
  simp
  omega
theorem dig_be4 (a b c d : Int) (h : 0 ≤ a ∧ a < 256) (k : 0 ≤ b ∧ b < 256) (l : 0 ≤ c ∧ c < 256) (m : 0 ≤ d ∧ d < 256) : dig 4 ((be [a, b, c, d] : Nat) : Int) = [a, b, c, d] := by
  have e : ∀ x : Int, dig 4 x = [x / 16777216 % 256, x / 65536 % 256, x / 256 % 256, x / 1 % 256] := fun _ => rfl
  have e2 : ((be [a, b, c, d] : Nat) : Int) = 16777216 * a + 65536 * b + 256 * c + d := by simp [be, beFrom]; omega
  rw [e, e2]
  simp
  omega
theorem dig_be (s : Nat) (hs : s = 1 ∨ s = 2 ∨ s = 4) (r : List Int) (hr : bytesP r) (hl : r.length = s) : dig s ((be r : Nat) : Int) = r := by
  rcases hs with rfl | rfl | rfl
  · match r, hl with
    | [a], _ => exact dig_be1 a (hr a (by simp))
  · match r, hl with
    | [a, b], _ => exact dig_be2 a b (hr a (by simp)) (hr b (by simp))
  · match r, hl with
    | [a, b, c, d], _ => exact dig_be4 a b c d (hr a (by simp)) (hr b (by simp)) (hr c (by simp)) (hr d (by simp))
theorem dig_one (x : Int) (h : 0 ≤ x ∧ x < 256) : dig 1 x = [x] := by
  have e : dig 1 x = [x / 1 % 256] := rfl
  rw [e]
  simp
  omega
/-- What was read without an error stood there. -/
theorem rNum_inv (s : Nat) (hs : s = 1 ∨ s = 2 ∨ s = 4) {l : List Int} {e x : Int} {st : List Int × Int} (hb : bytesP l) (h : rNum l e (s : Int) = (x, st)) (h0 : st.2 = 0) : e = 0 ∧ l = dig s x ++ st.1 ∧ okN s x := by
  unfold rNum at h
  by_cases he : e = 0
  · subst he
    rw [if_neg (by simp), if_neg (by omega)] at h
    by_cases hl : (l.length : Int) < s
    · rw [if_pos hl] at h
      rw [← (Prod.mk.inj h).2] at h0
      simp at h0
    · rw [if_neg hl, Int.toNat_natCast] at h
      obtain ⟨h1, h2⟩ := Prod.mk.inj h
      have hlen : (l.take s).length = s := by rw [List.length_take]; omega
      have h3 := dig_be s hs (l.take s) (hb.take s) hlen
      have h4 := be_lt (hb.take s)
      rw [hlen] at h4
      refine ⟨rfl, ?_, ?_⟩
      · rw [← h1, ← h2, h3]
        exact (List.take_append_drop s l).symm
      · rw [← h1]
        refine ⟨by omega, ?_⟩
        rcases hs with rfl | rfl | rfl
        · show ((be (l.take 1) : Nat) : Int) < 256; omega
        · show ((be (l.take 2) : Nat) : Int) < 65536; omega
        · show ((be (l.take 4) : Nat) : Int) < 4294967296; omega
  · rw [if_pos he] at h
    rw [← (Prod.mk.inj h).2] at h0
    exact absurd h0 he
theorem rEnd_inv {l : List Int} {e : Int} (h : rEnd l e = 0) : e = 0 ∧ l = [] := by
  unfold rEnd at h
  by_cases hc : e = 0 ∧ 0 < l.length
  · rw [if_pos hc] at h
    exact absurd h (by decide)
  · rw [if_neg hc] at h
    refine ⟨h, ?_⟩
    cases l with
    | nil => rfl
    | cons a t => exact absurd ⟨h, by simp⟩ hc
/-- A frame that opens is the sealing of what it holds. -/
theorem openS_inv {b : List Int} {k : Int} {body : List Int} (hb : bytesP b) (h : openS b = (k, body, 0)) : b = frameOf k body ∧ body.length ≤ 509 := by
  unfold openS at h
  by_cases h1 : 512 < b.length
  · rw [if_pos h1] at h; simp at h
  rw [if_neg h1] at h
  by_cases h2 : b.length < 3
  · rw [if_pos h2] at h; simp at h
  rw [if_neg h2] at h
  by_cases h3 : be (b.drop (b.length - 2)) = sumS (b.take (b.length - 2))
  · rw [if_pos h3] at h
    obtain ⟨hk, h4⟩ := Prod.mk.inj h
    obtain ⟨hbody, _⟩ := Prod.mk.inj h4
    have e1 : b.take (b.length - 2) = k :: body := by
      rw [← hk, ← hbody]
      cases b with
      | nil => simp at h2
      | cons a t =>
        have : (a :: t).length - 2 = (t.length - 2) + 1 := by simp only [List.length_cons] at h2 ⊢; omega
        rw [this]
        simp
    have e2 : b.drop (b.length - 2) = dig 2 (sumS (k :: body) : Nat) := by
      rw [← e1, ← h3]
      exact (dig_be 2 (by omega) _ (hb.drop _) (by rw [List.length_drop]; omega)).symm
    refine ⟨?_, ?_⟩
    · have e3 : b = b.take (b.length - 2) ++ b.drop (b.length - 2) := (List.take_append_drop _ b).symm
      have e4 : b.take (b.length - 2) ++ b.drop (b.length - 2) = (k :: body) ++ dig 2 (sumS (k :: body) : Nat) := by rw [e1, e2]
      exact e3.trans e4
    · have := congrArg List.length e1
      rw [List.length_take] at this
      simp only [List.length_cons] at this
      omega
  · rw [if_neg h3] at h; simp at h
theorem frameOf_open (k : Int) (body : List Int) (h0 : 0 ≤ k) (h1 : k < 256) (hb : bytesP body) (hl : body.length ≤ 509) : openS (frameOf k body) = (k, body, 0) := (sealed_frame k body h0 h1 hb hl).2.2.2
theorem frameOf_bytes (k : Int) (body : List Int) (h0 : 0 ≤ k) (h1 : k < 256) (hb : bytesP body) (hl : body.length ≤ 509) : bytesP (frameOf k body) := (sealed_frame k body h0 h1 hb hl).2.1
/-- A datum's bytes are read as it was. -/
theorem parse_bytes {v h i x y z : Int} (ok : okD v h i) (ux : 0 ≤ x ∧ x < 256) (uy : 0 ≤ y ∧ y < 256) (uz : 0 ≤ z ∧ z < 256) : parseD (frameOf 1 (bodyD v h i x y z)) = (((v, h, i), (x, y, z)), 0) := by
  have ho := frameOf_open 1 (bodyD v h i x y z) (by omega) (by omega) (bodyD_bytes v h i ux uy uz) (by rw [bodyD_len]; omega)
  have e0 : bodyD v h i x y z = dig 1 v ++ (dig 1 h ++ (dig 4 i ++ (dig 1 x ++ (dig 1 y ++ (dig 1 z ++ []))))) := by
    rw [dig_one x ux, dig_one y uy, dig_one z uz]
    simp [bodyD, hdD]
  have ox : okN 1 x := ⟨ux.1, ux.2⟩
  have oy : okN 1 y := ⟨uy.1, uy.2⟩
  have oz : okN 1 z := ⟨uz.1, uz.2⟩
  have n1 := rNum_dig 1 (by omega) v (okD_v ok) (dig 1 h ++ (dig 4 i ++ (dig 1 x ++ (dig 1 y ++ (dig 1 z ++ [])))))
  rw [← e0] at n1
  have n2 := rNum_dig 1 (by omega) h (okD_h ok) (dig 4 i ++ (dig 1 x ++ (dig 1 y ++ (dig 1 z ++ []))))
  have n3 := rNum_dig 4 (by omega) i (okD_i ok) (dig 1 x ++ (dig 1 y ++ (dig 1 z ++ [])))
  have m1 := rNum_dig 1 (by omega) x ox (dig 1 y ++ (dig 1 z ++ []))
  have m2 := rNum_dig 1 (by omega) y oy (dig 1 z ++ [])
  have m3 := rNum_dig 1 (by omega) z oz []
  obtain ⟨hth, hgo⟩ := datD_eq (k := 1) (body := bodyD v h i x y z) (s1 := (_, 0)) (s2 := (_, 0)) (s3 := (_, 0)) n1 n2 n3
  have a1 : numsH (dig 1 x ++ (dig 1 y ++ (dig 1 z ++ [])), 0) 1 = (dig 1 y ++ (dig 1 z ++ []), 0) := congrArg Prod.snd m1
  have a2 : numsH (dig 1 x ++ (dig 1 y ++ (dig 1 z ++ [])), 0) 2 = (dig 1 z ++ [], 0) := by show (rNum (numsH _ 1).1 (numsH _ 1).2 1).2 = _; rw [a1]; exact congrArg Prod.snd m2
  have a3 : numsH (dig 1 x ++ (dig 1 y ++ (dig 1 z ++ [])), 0) 3 = ([], 0) := by show (rNum (numsH _ 2).1 (numsH _ 2).2 1).2 = _; rw [a2]; exact congrArg Prod.snd m3
  have b0 : valH (dig 1 x ++ (dig 1 y ++ (dig 1 z ++ [])), 0) 0 = x := congrArg Prod.fst m1
  have b1 : valH (dig 1 x ++ (dig 1 y ++ (dig 1 z ++ [])), 0) 1 = y := by show (rNum (numsH _ 1).1 (numsH _ 1).2 1).1 = _; rw [a1]; exact congrArg Prod.fst m2
  have b2 : valH (dig 1 x ++ (dig 1 y ++ (dig 1 z ++ [])), 0) 2 = z := by show (rNum (numsH _ 2).1 (numsH _ 2).2 1).1 = _; rw [a2]; exact congrArg Prod.fst m3
  rw [b0, b1, b2] at hth
  rw [a3] at hgo
  rw [parseD_ok ho (hgo.2 ⟨rfl, rfl, ok⟩), hth]
/-- What reads has just these bytes. -/
theorem bytes_parse {b : List Int} {v h i x y z : Int} (hb : bytesP b) (hp : parseD b = (((v, h, i), (x, y, z)), 0)) : okD v h i ∧ (0 ≤ x ∧ x < 256) ∧ (0 ≤ y ∧ y < 256) ∧ (0 ≤ z ∧ z < 256) ∧ b = frameOf 1 (bodyD v h i x y z) := by
  obtain ⟨k, body, e, ho⟩ : ∃ k body e, openS b = (k, body, e) := ⟨_, _, _, rfl⟩
  have hbb : bytesP body := by have := openS_bytes hb; rw [ho] at this; exact this
  by_cases he : e = 0
  · subst he
    by_cases hg : goodD k body
    · obtain ⟨x1, s1, n1⟩ : ∃ x1 s1, rNum body 0 1 = (x1, s1) := ⟨_, _, rfl⟩
      obtain ⟨x2, s2, n2⟩ : ∃ x2 s2, rNum s1.1 s1.2 1 = (x2, s2) := ⟨_, _, rfl⟩
      obtain ⟨x3, s3, n3⟩ : ∃ x3 s3, rNum s2.1 s2.2 4 = (x3, s3) := ⟨_, _, rfl⟩
      obtain ⟨hth, hgo⟩ := datD_eq (k := k) n1 n2 n3
      obtain ⟨rfl, hen, hok⟩ := hgo.1 hg
      have hp2 := (parseD_ok ho hg).symm.trans hp
      rw [hth] at hp2
      simp only [Prod.mk.injEq] at hp2
      obtain ⟨⟨⟨rfl, rfl, rfl⟩, rfl, rfl, rfl⟩, _⟩ := hp2
      have y1 : bytesP s1.1 := by have := rNum_bytes (e := 0) (n := 1) hbb; rw [n1] at this; exact this
      have y2 : bytesP s2.1 := by have := rNum_bytes (e := s1.2) (n := 1) y1; rw [n2] at this; exact this
      have y3 : bytesP s3.1 := by have := rNum_bytes (e := s2.2) (n := 4) y2; rw [n3] at this; exact this
      obtain ⟨e3, l3⟩ := rEnd_inv hen
      obtain ⟨e2, l2, _⟩ := rNum_inv 1 (by omega) (numsH_bytes y3 2) (numsH_eq s3 2) e3
      obtain ⟨e1, l1, _⟩ := rNum_inv 1 (by omega) (numsH_bytes y3 1) (numsH_eq s3 1) e2
      obtain ⟨e0, l0, _⟩ := rNum_inv 1 (by omega) (numsH_bytes y3 0) (numsH_eq s3 0) e1
      have e0 : s3.2 = 0 := e0
      have l0 : s3.1 = dig 1 (valH s3 0) ++ (numsH s3 1).1 := l0
      obtain ⟨f2, k3, _⟩ := rNum_inv 4 (by omega) y2 n3 e0
      obtain ⟨f1, k2, _⟩ := rNum_inv 1 (by omega) y1 n2 f2
      obtain ⟨f0, k1, _⟩ := rNum_inv 1 (by omega) hbb n1 f1
      have v0 := valH_range y3 0
      have v1 := valH_range y3 1
      have v2 := valH_range y3 2
      refine ⟨hok, v0, v1, v2, ?_⟩
      rw [(openS_inv hb ho).1]
      congr 1
      rw [k1, k2, k3, l0, l1, l2, l3, dig_one _ v0, dig_one _ v1, dig_one _ v2]
      simp [bodyD, hdD]
    · have := (parseD_no ho hg).symm.trans hp
      simp at this
  · have := (parseD_err ho he).symm.trans hp
    simp only [Prod.mk.injEq] at this
    exact absurd this.2 he
end Go.Proofs.Ytkgjmajabgpadaa
