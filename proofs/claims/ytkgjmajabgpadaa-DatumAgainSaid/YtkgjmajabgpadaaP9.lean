import Derived.Test.YtkgjmajabgpadaaP4
import Derived.Test.YtkgjmajabgpadaaS9
import Derived.Test.YtkgjmajabgpadaaO3
namespace Go.Proofs.Ytkgjmajabgpadaa
set_option linter.unusedVariables false
set_option linter.unusedSimpArgs false
open Go.RowKit Go.Proofs.YtkgjmajabgpadaaW.PrintWords Go.Proofs.YtkgjmajabgpadaaW.PrintLast Go.Proofs.YtkgjmajabgpadaaW.PrintMore
set_option maxHeartbeats 8000000 in
set_option maxRecDepth 100000 in
theorem datumAgain_walk {w : World} (v0 : Value) (l0 : List Int) (h0 : BV w v0 l0) (hb0 : bytesP l0) (hy0 : l0.length * 1 ≤ 140737488351232) (v1 : Value) (l1 : List Int) (h1 : BV w v1 l1) (hb1 : bytesP l1) (hy1 : l1.length * 1 ≤ 140737488351232) :
    Calls Try.prog 14 #[v0, v1] w fun e w' => e = .returned (.bool true) ∧ Below w.heap.size w w' := by
  have HB := Aside0.mk (Below.refl w.heap.size w)
  have H0 := Aside0.mk h0
  have H1 := Aside0.mk h1
  have HB0 := Aside0.mk hb0
  have HB1 := Aside0.mk hb1
  have HY1 := Aside0.mk hy1
  obtain ⟨r1, e1, hse⟩ : ∃ r1 e1, sealS 1 l1 = (r1, e1) := ⟨_, _, rfl⟩
  have HSE := Aside0.mk hse
  have HRB := Aside0.mk (sealS_bytes (by omega) (by omega) hb1 hse).1
  clear h0 h1 hb0 hb1 hy0 hy1 hse
  go_enter Try.func14, Try.ntmps14
  go_wp2
  go_loopg [0, 5] 2 (fun k vb vj w' => ∃ (j : Nat) (l : List Int), j + k = 2 ∧ vj = .int .i64 j ∧ Aside0 (BV w' vb l) ∧ Aside0 (bytesP l) ∧ Aside0 (Below w.heap.size w w'))
  case atStart => exact ⟨0, l0, by omega, rfl, H0, HB0, HB⟩
  case round =>
    clear H0 HB0 HB v0 l0
    obtain ⟨j, l, hj, rfl, HV0, HLB, HB⟩ := hrel
    by_cases h2 : j < 2
    · obtain ⟨g', rfl⟩ : ∃ g', gk = g' + 1 := ⟨gk - 1, by omega⟩
      have y1 : decide ((j : Int) < 2) = true := decide_eq_true (by omega)
      have y2 : decide (j < 2) = true := decide_eq_true h2
      obtain ⟨⟨⟨x, y, z⟩, ⟨p, q, t⟩⟩, e0, hpa⟩ : ∃ (d : Dat) (e0 : Int), parseD l = (d, e0) := ⟨_, _, rfl⟩
      by_cases he : e0 = 0
      · subst he
        obtain ⟨hok, ux, uy, uz, hl⟩ := bytes_parse HLB.out hpa
        have HPA := Aside0.mk hpa
        have UX := Aside0.mk ux
        have UY := Aside0.mk uy
        have UZ := Aside0.mk uz
        have HBS := Aside0.mk (show bytesD x y z p q t = (l, 0) by rw [bytesD_ok hok, hl])
        have HV : Aside0 (datV (((x, y, z), (p, q, t)) : Dat) = #[.int .i64 x, .int .i64 y, .int .i64 z, .int .u8 p, .int .u8 q, .int .u8 t]) := ⟨rfl⟩
        clear hok ux uy uz hl hpa
        go_wp2_with (first | (go_at_call 57; (with_reducible refine (dparse_c u0 l _ ?s0 HLB.out (((x, y, z), (p, q, t)) : Dat) 0 HPA.out).mono ?_); (case s0 => exact (by repeat (first | (with_reducible first | exact HV0.out | apply BV.alloc | apply BV.drewN | apply BV.drew)))); rintro e w_p ⟨rfl, hb⟩; rw [HV.out]; have n_ := Aside0.mk (BV.mv (by repeat (first | (with_reducible first | exact HV0.out | apply BV.alloc | apply BV.drewN | apply BV.drew))) hb); clear HV0; have HV0 := n_; clear n_; have n_ := Aside0.mk (below_step (by repeat (first | (with_reducible first | exact HB.out | apply below_alloc | apply pw_below_drewN | apply below_drew1) | exact HB.out)) hb); clear HB; have HB := n_; clear n_; clear hb; skip) | (go_at_call 52; (with_reducible refine (dbytes_c x y z p q t _ UX.out UY.out UZ.out l 0 HBS.out).mono ?_); rintro e w_b ⟨v_b, rfl, ho, hb⟩; have HO := Aside0.mk (ho.lower (below_size (by repeat (first | (with_reducible first | exact HB.out | apply below_alloc | apply pw_below_drewN | apply below_drew1) | exact HB.out)))); clear ho; have n_ := Aside0.mk (BV.mv (by repeat (first | (with_reducible first | exact HV0.out | apply BV.alloc | apply BV.drewN | apply BV.drew))) hb); clear HV0; have HV0 := n_; clear n_; have n_ := Aside0.mk (below_step (by repeat (first | (with_reducible first | exact HB.out | apply below_alloc | apply pw_below_drewN | apply below_drew1) | exact HB.out)) hb); clear HB; have HB := n_; clear n_; clear hb; skip) | (go_at_call 26; (with_reducible refine (eqb_v v_b u0 l l _ ?s0 ?s1 rfl).mono ?_); (case s0 => exact BR.bv (by repeat (first | (with_reducible first | exact HO.out | apply BR.alloc | apply BR.drewN | apply BR.drew)))); (case s1 => exact (by repeat (first | (with_reducible first | exact HV0.out | apply BV.alloc | apply BV.drewN | apply BV.drew)))); rintro e w_q ⟨rfl, rfl⟩; skip) | (go_at_call 24; (with_reducible refine (oseal_v 1 v1 l1 r1 e1 _ ?s0 HB1.out ?s2 HSE.out).mono ?_); (case s0 => exact H1.out.mv (by repeat (first | (with_reducible first | exact HB.out | apply below_alloc | apply pw_below_drewN | apply below_drew1) | exact HB.out))); (case s2 => have := HY1.out; omega); rintro e w_s ⟨v_s, rfl, ho, hb⟩; have HR := Aside0.mk (BR.bv ho); clear ho; have n_ := Aside0.mk (below_step (by repeat (first | (with_reducible first | exact HB.out | apply below_alloc | apply pw_below_drewN | apply below_drew1) | exact HB.out)) hb); clear HB; have HB := n_; clear n_; clear hb; skip))
        go_roundg g'
        case measure => omega
        case rel => exact ⟨j + 1, r1, by omega, by go_num, ⟨(by repeat (first | (with_reducible first | exact HR.out | apply BV.alloc | apply BV.drewN | apply BV.drew)))⟩, HRB, HB⟩
      · have hn := parseD_bad hpa he
        have HPA := Aside0.mk (show parseD l = (noD, e0) by rw [hpa, hn])
        have HV : Aside0 (datV noD = #[.int .i64 0, .int .i64 0, .int .i64 0, .int .u8 0, .int .u8 0, .int .u8 0]) := ⟨rfl⟩
        have keq := fun w : World => neq_datum_same w 0 0 0 0 0 0
        have ye : (e0 == 0) = false := by simp [he]
        clear hn hpa he
        go_wp2_with (first | (go_at_call 57; (with_reducible refine (dparse_c u0 l _ ?s0 HLB.out noD e0 HPA.out).mono ?_); (case s0 => exact (by repeat (first | (with_reducible first | exact HV0.out | apply BV.alloc | apply BV.drewN | apply BV.drew)))); rintro e w_p ⟨rfl, hb⟩; rw [HV.out]; have n_ := Aside0.mk (BV.mv (by repeat (first | (with_reducible first | exact HV0.out | apply BV.alloc | apply BV.drewN | apply BV.drew))) hb); clear HV0; have HV0 := n_; clear n_; have n_ := Aside0.mk (below_step (by repeat (first | (with_reducible first | exact HB.out | apply below_alloc | apply pw_below_drewN | apply below_drew1) | exact HB.out)) hb); clear HB; have HB := n_; clear n_; clear hb; skip) | (go_at_call 24; (with_reducible refine (oseal_v 1 v1 l1 r1 e1 _ ?s0 HB1.out ?s2 HSE.out).mono ?_); (case s0 => exact H1.out.mv (by repeat (first | (with_reducible first | exact HB.out | apply below_alloc | apply pw_below_drewN | apply below_drew1) | exact HB.out))); (case s2 => have := HY1.out; omega); rintro e w_s ⟨v_s, rfl, ho, hb⟩; have HR := Aside0.mk (BR.bv ho); clear ho; have n_ := Aside0.mk (below_step (by repeat (first | (with_reducible first | exact HB.out | apply below_alloc | apply pw_below_drewN | apply below_drew1) | exact HB.out)) hb); clear HB; have HB := n_; clear n_; clear hb; skip))
        go_roundg g'
        case measure => omega
        case rel => exact ⟨j + 1, r1, by omega, by go_num, ⟨(by repeat (first | (with_reducible first | exact HR.out | apply BV.alloc | apply BV.drewN | apply BV.drew)))⟩, HRB, HB⟩
    · have y1 : decide ((j : Int) < 2) = false := decide_eq_false (by omega)
      have y2 : decide (j < 2) = false := decide_eq_false h2
      go_wp2_with (first | (go_at_call 56; (with_reducible refine (works3_c _).mono ?_); rintro e w_w ⟨rfl, hb⟩; have n_ := Aside0.mk (below_step (by repeat (first | (with_reducible first | exact HB.out | apply below_alloc | apply pw_below_drewN | apply below_drew1) | exact HB.out)) hb); clear HB; have HB := n_; clear n_ hb; skip))
      go_ret
      exact ⟨rfl, HB.out⟩

end Go.Proofs.Ytkgjmajabgpadaa
