import Derived.Test.YtkgjmajabgpadaaP8
import Derived.Test.YtkgjmajabgpadaaS9
namespace Go.Proofs.Ytkgjmajabgpadaa
set_option linter.unusedVariables false
set_option linter.unusedSimpArgs false
open Go.RowKit Go.Proofs.YtkgjmajabgpadaaW.PrintWords Go.Proofs.YtkgjmajabgpadaaW.PrintLast Go.Proofs.YtkgjmajabgpadaaW.PrintMore
set_option maxHeartbeats 8000000 in
set_option maxRecDepth 100000 in
theorem datumTurned_walk {w : World} (v h i x y z : Int) (wv : (Lit.int .i64 v).wf = true) (wh : (Lit.int .i64 h).wf = true) (wi : (Lit.int .i64 i).wf = true) (wx : (Lit.int .u8 x).wf = true) (wy : (Lit.int .u8 y).wf = true) (wz : (Lit.int .u8 z).wf = true) (at_ : Int) (wa : (Lit.int .i64 at_).wf = true) (bt : Int) (wb : (Lit.int .u8 bt).wf = true) :
    Calls Try.prog 15 #[.agg #[.int .i64 v, .int .i64 h, .int .i64 i, .int .u8 x, .int .u8 y, .int .u8 z], .int .i64 at_, .int .u8 bt] w fun e w' => e = .returned (.bool true) ∧ Below w.heap.size w w' := by
  have HB := Aside0.mk (Below.refl w.heap.size w)
  have hx := wf_byte wx
  have hy := wf_byte wy
  have hz := wf_byte wz
  have hbt := wf_byte wb
  obtain ⟨nb, rfl⟩ : ∃ nb : Nat, bt = (nb : Int) := ⟨bt.toNat, by omega⟩
  have UX := Aside0.mk hx
  have UY := Aside0.mk hy
  have UZ := Aside0.mk hz
  have W1 := Aside0.mk wv
  have W2 := Aside0.mk wh
  have W3 := Aside0.mk wi
  have WA := Aside0.mk wa
  have hok := made_ok v h i
  have hbb := bodyD_bytes (v % 201) (h % 13) (i % 4294967296) hx hy hz
  have hbl := bodyD_len (v % 201) (h % 13) (i % 4294967296) x y z
  obtain ⟨fr, hfr⟩ : ∃ fr, frameOf 1 (bodyD (v % 201) (h % 13) (i % 4294967296) x y z) = fr := ⟨_, rfl⟩
  have HS := Aside0.mk (show bytesD (v % 201) (h % 13) (i % 4294967296) x y z = (fr, 0) by rw [bytesD_ok hok, hfr])
  have HF12 := Aside0.mk (show fr.length = 12 by rw [← hfr, frameOf_len 1 _ (by omega) (by omega) hbb (by omega), hbl])
  have HFP := Aside0.mk (show 0 < fr.length by have := HF12.out; omega)
  have HFB := Aside0.mk (show bytesP fr by rw [← hfr]; exact frameOf_bytes 1 _ (by omega) (by omega) hbb (by omega))
  obtain ⟨p, hp⟩ : ∃ p : Nat, at_ % 12 = (p : Int) := ⟨(at_ % 12).toNat, by omega⟩
  have HPE := Aside0.mk hp
  have hp12 : p < 12 := by omega
  have hnb : nb < 256 := by omega
  obtain ⟨c, hcx⟩ : ∃ c : Nat, fr.getD p 0 = (c : Int) := ⟨(fr.getD p 0).toNat, by have := HFB.out.at_ p; omega⟩
  have hc8 : c < 256 := by have := HFB.out.at_ p; omega
  have HTB := Aside0.mk (show fr.set p ((c ^^^ nb : Nat) : Int) = turnB fr p nb by unfold turnB; rw [hcx, Int.toNat_natCast])
  have HTBY := Aside0.mk (turnB_bytes HFB.out p nb hnb)
  have hpa0 : nb = 0 → parseD (turnB fr p nb) = ((((v % 201, h % 13, i % 4294967296), (x, y, z)) : Dat), 0) := fun e => by
    rw [e, turnB_zero HFB.out p (by have := HF12.out; omega), ← hfr]
    exact parse_bytes hok hx hy hz
  have hpa1 : nb ≠ 0 → parseD (turnB fr p nb) = (noD, 30) := fun e => by
    refine parseD_err (k := 0) (body := []) ?_ (by omega)
    rw [← hfr]
    exact frameOf_turned 1 _ (by omega) (by omega) hbb (by omega) p nb (by rw [hfr]; have := HF12.out; omega) hnb e
  have k7 := u8_xor_nat c nb hc8 hnb
  have q1 : ((p : Int) < 12) = True := eq_true (by omega)
  have HC := Aside0.mk hcx
  have HK7 := Aside0.mk k7
  have HP12 := Aside0.mk hp12
  have HP0 := Aside0.mk hpa0
  have HP1 := Aside0.mk hpa1
  clear k7 hpa0 hpa1 hcx hp hok hbb hbl hfr hx hy hz hbt wv wh wi wx wy wz wa wb hnb hc8 hp12
  go_enter Try.func15, Try.ntmps15
  by_cases h0 : nb = 0
  · have HPA := Aside0.mk (HP0.out h0)
    have HV : Aside0 (datV (((v % 201, h % 13, i % 4294967296), (x, y, z)) : Dat) = #[.int .i64 (v % 201), .int .i64 (h % 13), .int .i64 (i % 4294967296), .int .u8 x, .int .u8 y, .int .u8 z]) := ⟨rfl⟩
    have z1 : ((nb : Int) == 0) = true := by simp [h0]
    clear h0
    go_wp2_with (first | (go_at_call 59; (with_reducible refine (made_c v h i x y z _ W1.out W2.out W3.out).mono ?_); rintro e w_m ⟨rfl, hb⟩; have n_ := Aside0.mk (below_step (by repeat (first | (with_reducible first | exact HB.out | apply below_alloc | apply pw_below_drewN | apply below_drew1) | exact HB.out)) hb); clear HB; have HB := n_; clear n_ hb; skip) | (go_at_call 52; (with_reducible refine (dbytes_c (v % 201) (h % 13) (i % 4294967296) x y z _ UX.out UY.out UZ.out fr 0 HS.out).mono ?_); rintro e w_b ⟨v_b, rfl, ho, hb⟩; obtain ⟨A, cap, g, hvx, hg, hA, _⟩ := ho.form; subst hvx; obtain ⟨hA1, _⟩ := hA HFP.out; subst hA1; have HGW := Aside0.mk (show w.heap.size ≤ g from Nat.le_trans (below_size (by repeat (first | (with_reducible first | exact HB.out | apply below_alloc | apply pw_below_drewN | apply below_drew1) | exact HB.out))) hg); have HO := Aside0.mk (ho.lower (below_size (by repeat (first | (with_reducible first | exact HB.out | apply below_alloc | apply pw_below_drewN | apply below_drew1) | exact HB.out)))); rw [HF12.out] at HO; rw [HF12.out]; have n_ := Aside0.mk (below_step (by repeat (first | (with_reducible first | exact HB.out | apply below_alloc | apply pw_below_drewN | apply below_drew1) | exact HB.out)) hb); clear HB; have HB := n_; clear n_ hb ho hg hA; obtain ⟨hc, hf⟩ := HO.out.cell HF12.out p HP12.out; rw [HC.out] at hc; have HO2 := Aside0.mk (show BR (World.setCell _ ⟨g, p, none⟩ (.int .u8 ((c ^^^ nb : Nat) : Int))) w.heap.size (.slice (some ⟨g, 0, none⟩) 12 cap) (turnB fr p nb) by rw [← HTB.out]; exact HO.out.put HF12.out p _); have HB2 := Aside0.mk (HB.out.setCell (p := ⟨g, p, none⟩) HGW.out (.int .u8 ((c ^^^ nb : Nat) : Int))); clear HO HB; have k7 := HK7.out; skip) | (go_at_call 32; (with_reducible refine (bring_c at_ 12 _ WA.out (by decide) (by decide)).mono ?_); rintro e w_q ⟨rfl, rfl⟩; rw [HPE.out]; skip) | (go_at_call 57; (with_reducible refine (dparse_c _ (turnB fr p nb) _ ?s0 HTBY.out (((v % 201, h % 13, i % 4294967296), (x, y, z)) : Dat) 0 HPA.out).mono ?_); (case s0 => exact BR.bv (by repeat (first | (with_reducible first | exact HO2.out | apply BR.alloc | apply BR.drewN | apply BR.drew)))); rintro e w_p ⟨rfl, hb⟩; rw [HV.out]; have n_ := Aside0.mk (below_step (by repeat (first | (with_reducible first | exact HB2.out | apply below_alloc | apply pw_below_drewN | apply below_drew1) | exact HB2.out)) hb); clear HB2; have HB := n_; clear n_ hb; skip) | (go_at_call 56; (with_reducible refine (works3_c _).mono ?_); rintro e w_w ⟨rfl, hb⟩; have n_ := Aside0.mk (below_step (by repeat (first | (with_reducible first | exact HB.out | apply below_alloc | apply pw_below_drewN | apply below_drew1) | exact HB.out)) hb); clear HB; have HB := n_; clear n_ hb; skip))
    go_ret
    exact ⟨rfl, HB.out⟩
  · have HPA := Aside0.mk (HP1.out h0)
    have HV : Aside0 (datV noD = #[.int .i64 0, .int .i64 0, .int .i64 0, .int .u8 0, .int .u8 0, .int .u8 0]) := ⟨rfl⟩
    have z1 : ((nb : Int) == 0) = false := by simp [h0]
    clear h0
    go_wp2_with (first | (go_at_call 59; (with_reducible refine (made_c v h i x y z _ W1.out W2.out W3.out).mono ?_); rintro e w_m ⟨rfl, hb⟩; have n_ := Aside0.mk (below_step (by repeat (first | (with_reducible first | exact HB.out | apply below_alloc | apply pw_below_drewN | apply below_drew1) | exact HB.out)) hb); clear HB; have HB := n_; clear n_ hb; skip) | (go_at_call 52; (with_reducible refine (dbytes_c (v % 201) (h % 13) (i % 4294967296) x y z _ UX.out UY.out UZ.out fr 0 HS.out).mono ?_); rintro e w_b ⟨v_b, rfl, ho, hb⟩; obtain ⟨A, cap, g, hvx, hg, hA, _⟩ := ho.form; subst hvx; obtain ⟨hA1, _⟩ := hA HFP.out; subst hA1; have HGW := Aside0.mk (show w.heap.size ≤ g from Nat.le_trans (below_size (by repeat (first | (with_reducible first | exact HB.out | apply below_alloc | apply pw_below_drewN | apply below_drew1) | exact HB.out))) hg); have HO := Aside0.mk (ho.lower (below_size (by repeat (first | (with_reducible first | exact HB.out | apply below_alloc | apply pw_below_drewN | apply below_drew1) | exact HB.out)))); rw [HF12.out] at HO; rw [HF12.out]; have n_ := Aside0.mk (below_step (by repeat (first | (with_reducible first | exact HB.out | apply below_alloc | apply pw_below_drewN | apply below_drew1) | exact HB.out)) hb); clear HB; have HB := n_; clear n_ hb ho hg hA; obtain ⟨hc, hf⟩ := HO.out.cell HF12.out p HP12.out; rw [HC.out] at hc; have HO2 := Aside0.mk (show BR (World.setCell _ ⟨g, p, none⟩ (.int .u8 ((c ^^^ nb : Nat) : Int))) w.heap.size (.slice (some ⟨g, 0, none⟩) 12 cap) (turnB fr p nb) by rw [← HTB.out]; exact HO.out.put HF12.out p _); have HB2 := Aside0.mk (HB.out.setCell (p := ⟨g, p, none⟩) HGW.out (.int .u8 ((c ^^^ nb : Nat) : Int))); clear HO HB; have k7 := HK7.out; skip) | (go_at_call 32; (with_reducible refine (bring_c at_ 12 _ WA.out (by decide) (by decide)).mono ?_); rintro e w_q ⟨rfl, rfl⟩; rw [HPE.out]; skip) | (go_at_call 57; (with_reducible refine (dparse_c _ (turnB fr p nb) _ ?s0 HTBY.out noD 30 HPA.out).mono ?_); (case s0 => exact BR.bv (by repeat (first | (with_reducible first | exact HO2.out | apply BR.alloc | apply BR.drewN | apply BR.drew)))); rintro e w_p ⟨rfl, hb⟩; rw [HV.out]; have n_ := Aside0.mk (below_step (by repeat (first | (with_reducible first | exact HB2.out | apply below_alloc | apply pw_below_drewN | apply below_drew1) | exact HB2.out)) hb); clear HB2; have HB := n_; clear n_ hb; skip) | (go_at_call 56; (with_reducible refine (works3_c _).mono ?_); rintro e w_w ⟨rfl, hb⟩; have n_ := Aside0.mk (below_step (by repeat (first | (with_reducible first | exact HB.out | apply below_alloc | apply pw_below_drewN | apply below_drew1) | exact HB.out)) hb); clear HB; have HB := n_; clear n_ hb; skip))
    go_ret
    exact ⟨rfl, HB.out⟩

end Go.Proofs.Ytkgjmajabgpadaa
