/- A datum's bytes: plain law, no Go in sight. -/
import Derived.Test.YtkgjmajabgpadaaS5
import Derived.Test.YtkgjmajabgpadaaB6
namespace Go.Proofs.Ytkgjmajabgpadaa
/-- May a datum be? -/
def okD (v h i : Int) : Prop := (0 ≤ v ∧ v ≤ 200) ∧ (0 ≤ h ∧ h ≤ 12) ∧ 0 ≤ i ∧ i ≤ 4294967295
instance (v h i : Int) : Decidable (okD v h i) := by unfold okD; infer_instance
def checkD (v h i : Int) : Int := if okD v h i then 0 else 2
theorem checkD_ok {v h i : Int} (x : okD v h i) : checkD v h i = 0 := if_pos x
theorem checkD_no {v h i : Int} (x : ¬ okD v h i) : checkD v h i = 2 := if_neg x
def hdD (v h : Int) : List Int := dig 1 v ++ dig 1 h
def bodyD (v h i x y z : Int) : List Int := (hdD v h ++ dig 4 i) ++ [x, y, z]
def frameOf (kind : Int) (body : List Int) : List Int := kind :: body ++ dig 2 (sumS (kind :: body) : Nat)
def bytesD (v h i x y z : Int) : List Int × Int := if okD v h i then (frameOf 1 (bodyD v h i x y z), 0) else ([], 2)
theorem bytesD_ok {v h i : Int} (k : okD v h i) (x y z : Int) : bytesD v h i x y z = (frameOf 1 (bodyD v h i x y z), 0) := if_pos k
theorem bytesD_no {v h i : Int} (k : ¬ okD v h i) (x y z : Int) : bytesD v h i x y z = ([], 2) := if_neg k
theorem okD_v {v h i : Int} (k : okD v h i) : okN 1 v := ⟨k.1.1, by show v < 256; have := k.1.2; omega⟩
theorem okD_h {v h i : Int} (k : okD v h i) : okN 1 h := ⟨k.2.1.1, by show h < 256; have := k.2.1.2; omega⟩
theorem okD_i {v h i : Int} (k : okD v h i) : okN 4 i := ⟨k.2.2.1, by show i < 4294967296; have := k.2.2.2; omega⟩
theorem put1_D {v h i : Int} (k : okD v h i) : putS [] 1 [v, h] = (hdD v h, 0) := by
  have := putS_good [] 1 1 rfl [v, h] (by omega) (fun x hx => by
    simp only [List.mem_cons, List.not_mem_nil, or_false] at hx
    rcases hx with rfl | rfl
    · exact okD_v k
    · exact okD_h k)
  rw [this]
  simp [hdD]
theorem put2_D {v h i : Int} (k : okD v h i) : putS (hdD v h) 4 [i] = (hdD v h ++ dig 4 i, 0) := by
  have := putS_good (hdD v h) 4 4 rfl [i] (by omega) (fun x hx => by
    simp only [List.mem_cons, List.not_mem_nil, or_false] at hx
    subst hx
    exact okD_i k)
  rw [this]
  simp
theorem sealD_ok {v h i : Int} (k : okD v h i) (x y z : Int) : sealS 1 (bodyD v h i x y z) = bytesD v h i x y z := by
  rw [bytesD_ok k, sealS_ok 1 _ (by omega) (by rw [show (bodyD v h i x y z).length = 9 by simp [bodyD, hdD, dig_length]]; omega)]
  rfl
theorem bodyD_len (v h i x y z : Int) : (bodyD v h i x y z).length = 9 := by simp [bodyD, hdD, dig_length]
theorem bodyD_bytes (v h i : Int) {x y z : Int} (ux : 0 ≤ x ∧ x < 256) (uy : 0 ≤ y ∧ y < 256) (uz : 0 ≤ z ∧ z < 256) : bytesP (bodyD v h i x y z) :=
  (((dig_bytes 1 v).app (dig_bytes 1 h)).app (dig_bytes 4 i)).app (((bytesP.nil.cons uz.1 uz.2).cons uy.1 uy.2).cons ux.1 ux.2)
end Go.Proofs.Ytkgjmajabgpadaa
