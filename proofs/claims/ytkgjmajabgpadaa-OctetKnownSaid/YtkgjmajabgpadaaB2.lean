import Derived.Test.YtkgjmajabgpadaaB1
import Derived.Test.YtkgjmajabgpadaaS1
namespace Go.Proofs.Ytkgjmajabgpadaa
set_option linter.unusedVariables false
set_option linter.unusedSimpArgs false
open Go.RowKit Go.Proofs.YtkgjmajabgpadaaW.PrintWords Go.Proofs.YtkgjmajabgpadaaW.PrintLast Go.Proofs.YtkgjmajabgpadaaW.PrintMore
set_option maxHeartbeats 8000000 in
set_option maxRecDepth 100000 in
theorem oput_1 (A0 : Option Addr) (c0 : Nat) (l0 : List Int) (A2 : Option Addr) (c2 : Nat) (l2 : List Int) (r1 : List Int) (r2 : Int) (w : World) (hr0 : BC w A0 l0) (hr2 : IC w A2 l2) (hlen : l0.length + 4 * l2.length < 140737488355328) (h : putS l0 1 l2 = (r1, r2)) :
    Calls Try.prog 20 #[.slice A0 l0.length c0, .int .i64 1, .slice A2 l2.length c2] w fun e w' => ∃ v0_ : Value, e = .returned (.tuple #[v0_, .int .i64 r2]) ∧ BR w' w.heap.size v0_ r1 ∧ Below w.heap.size w w' := by
  have HR0 := Aside0.mk hr0
  have HR2 := Aside0.mk hr2
  have HL := Aside0.mk hlen
  have HP := Aside0.mk h
  have hm2 := hr2.max
  clear hr0 hlen hr2 h
  have HB := Aside0.mk (Below.refl w.heap.size w)
  go_enter Try.func20, Try.ntmps20
  go_wp2_with (first | (go_at_call 63; (with_reducible refine (sized_calls _ _).mono ?_); rintro e w_63 ⟨rfl, rfl⟩; skip) | (go_at_call 64; (with_reducible refine (clone_calls _ _ l0 _ ?s1 ?s2).mono ?_); (case s1 => exact HR0.out); (case s2 => have := HL.out; omega); rintro e w_64 ⟨v64, rfl, ho, hb⟩; have n_ := Aside0.mk (BC.mv (by repeat (first | exact HR0.out | apply BC.alloc | apply BC.drewN | apply BC.drew)) hb); clear HR0; have HR0 := n_; clear n_; have n_ := Aside0.mk (below_step (by repeat (first | exact HB.out | apply below_alloc | apply pw_below_drewN | apply below_drew1)) hb); clear HB; have HB := n_; clear n_; clear hb; have HO := Aside0.mk ho; clear ho))
  go_loopg [8, 19] l2.length (fun g v8 v19 w' => ∃ i : Nat, i + g = l2.length ∧ v19 = .int .i64 i ∧ Aside0 (BR w' w.heap.size v8 (l0 ++ (l2.take i).flatMap (dig 1))) ∧ Aside0 (∀ x ∈ l2.take i, okN 1 x) ∧ Aside0 (Below w.heap.size w w'))
  case atStart => exact ⟨0, by omega, rfl, by simpa using HO, ⟨by simp⟩, HB⟩
  case round =>
    clear HO HB
    obtain ⟨i, hi, rfl, HO, HG, HB⟩ := hrel
    by_cases hlt : i < l2.length
    · obtain ⟨ad, e1, hx⟩ := HR2.out.atN i hlt
      subst e1
      replace hx := (HB.out.cell (World.block_lt_of_cell? w _ hx)).trans hx
      obtain ⟨x, hx0⟩ : ∃ x, l2.getD i 0 = x := ⟨_, rfl⟩
      rw [hx0] at hx
      have HX := Aside0.mk hx0
      clear hx0
      have q1 : (i : Int) < (l2.length : Int) := by omega
      replace q1 := eq_true q1
      by_cases hn : x < 0
      · go_wp2
        obtain ⟨rfl, rfl⟩ := Prod.mk.inj ((putS_bad l0 1 1 rfl l2 (by omega) x (HX.out ▸ getD_mem l2 i hlt) (fun h => by have := h.1; omega)).symm.trans HP.out)
        go_ret2
        exact ⟨_, rfl, BR.nil _ _, HB.out⟩
      by_cases hz : x / 256 = 0
      · have z1 : (x / 256 != 0) = false := by simp [hz]
        have HN := Aside0.mk (show okN 1 x from ⟨by omega, by show x < 256; omega⟩)
        clear hz
        go_wp2
        go_loopg [8, 11] 1 (fun g v8 v11 w' => ∃ k : Nat, k = g ∧ k ≤ 1 ∧ v11 = .int .i64 (8 * (k : Int) - 8) ∧ Aside0 (BR w' w.heap.size v8 (l0 ++ (l2.take i).flatMap (dig 1) ++ (dig 1 x).take (1 - k))) ∧ Aside0 (Below w.heap.size w w'))
        case atStart => exact ⟨1, rfl, by omega, rfl, by simpa using HO, HB⟩
        case round =>
          clear HO HB
          obtain ⟨k, rfl, hk, rfl, HO, HB⟩ := hrel
          obtain (rfl | rfl) := (by omega : k = 1 ∨ k = 0)

          · go_wp2_with (first | ((with_reducible refine gate_dst (N := 44) rfl ?_); refine lit_u8 (w0 := w) (N := 44) w.heap.size ?hg ?hd [x % 256] ?hr ?hB ?hS (by simp) ?_; (case hd => rfl); (case hg => rfl); (case hr => first | (go_simp; done) | (go_simp; rfl)); (case hB => exact (by repeat (first | exact HB.out | apply below_alloc | apply pw_below_drewN | apply below_drew1))); (case hS => exact below_size (by repeat (first | exact HB.out | apply below_alloc | apply pw_below_drewN | apply below_drew1))); intro v_a w_a ho hb hg hat; have n_ := Aside0.mk (BR.mv (by repeat (first | exact HO.out | apply BR.alloc | apply BR.drewN | apply BR.drew)) (below_of_grown_none hg)); clear HO; have HO := n_; clear n_; have n_ := Aside0.mk hb; clear HB; have HB := n_; clear n_; have HO_a := Aside0.mk ho; clear ho hb hg hat; obtain ⟨A_a, c_a, e_a, _, _⟩ := BR.reads HO_a.out; subst e_a) | ((with_reducible refine gate_builtin (b := .append) (xs := #[.tmp 39, .tmp 44]) rfl ?_); at_builtin; refine app_arm (w0 := w) w.heap.size rfl (.tmp 39) (.tmp 44) rfl _ (l0 ++ (l2.take i).flatMap (dig 1) ++ (dig 1 x).take (1 - 1)) [x % 256] _ _ _ rfl rfl ?aO ?aR ?aM ?aB ?aS ?aL ?_; (case aO => exact (by repeat (first | exact HO.out | apply BR.alloc | apply BR.drewN | apply BR.drew))); (case aR => exact HO_a.out.bc); (case aM => first | rfl | simp); (case aB => exact (by repeat (first | exact HB.out | apply below_alloc | apply pw_below_drewN | apply below_drew1))); (case aS => exact below_size (by repeat (first | exact HB.out | apply below_alloc | apply pw_below_drewN | apply below_drew1))); (case aL => (have := HL.out; have := flat_len 1 (by omega) l2 i (by omega); simp only [List.length_append, List.length_take, dig_length, List.length_cons, List.length_nil]; omega)); intro v_r w_r ho hb hg hat; have n_ := Aside0.mk hb; clear HB; have HB := n_; clear n_; have HO_r := Aside0.mk ho; clear ho hb; skip))
            go_roundg 0
            case measure => omega
            case rel => exact ⟨0, rfl, by omega, rfl, ⟨by simpa [dig, List.range_succ] using HO_r.out⟩, HB⟩

          · obtain ⟨g', rfl⟩ : ∃ g', gk = g' + 1 := ⟨gk - 1, by omega⟩
            go_wp2
            go_roundg g'
            case measure => omega
            case rel => exact ⟨i + 1, by omega, by go_num, ⟨by rw [flat_snoc 1 l2 i hlt, HX.out, ← List.append_assoc]; simpa [dig_length, List.take_of_length_le] using HO.out⟩, ⟨good_snoc 1 l2 i hlt HG.out (by rw [HX.out]; exact HN.out)⟩, HB⟩

      · have z1 : (x / 256 != 0) = true := by simp [hz]
        go_wp2
        obtain ⟨rfl, rfl⟩ := Prod.mk.inj ((putS_bad l0 1 1 rfl l2 (by omega) x (HX.out ▸ getD_mem l2 i hlt) (fun h => by have : x < 256 := h.2; have := h.1; omega)).symm.trans HP.out)
        go_ret2
        exact ⟨_, rfl, BR.nil _ _, HB.out⟩
    · have e : i = l2.length := by omega
      subst e
      obtain ⟨rfl, rfl⟩ := Prod.mk.inj ((putS_good l0 1 1 rfl l2 (by omega) (by simpa using HG.out)).symm.trans HP.out)
      go_wp2
      go_ret2
      exact ⟨_, rfl, by simpa using HO.out, HB.out⟩
set_option maxHeartbeats 8000000 in
set_option maxRecDepth 100000 in
theorem oput_2 (A0 : Option Addr) (c0 : Nat) (l0 : List Int) (A2 : Option Addr) (c2 : Nat) (l2 : List Int) (r1 : List Int) (r2 : Int) (w : World) (hr0 : BC w A0 l0) (hr2 : IC w A2 l2) (hlen : l0.length + 4 * l2.length < 140737488355328) (h : putS l0 2 l2 = (r1, r2)) :
    Calls Try.prog 20 #[.slice A0 l0.length c0, .int .i64 2, .slice A2 l2.length c2] w fun e w' => ∃ v0_ : Value, e = .returned (.tuple #[v0_, .int .i64 r2]) ∧ BR w' w.heap.size v0_ r1 ∧ Below w.heap.size w w' := by
  have HR0 := Aside0.mk hr0
  have HR2 := Aside0.mk hr2
  have HL := Aside0.mk hlen
  have HP := Aside0.mk h
  have hm2 := hr2.max
  clear hr0 hlen hr2 h
  have HB := Aside0.mk (Below.refl w.heap.size w)
  go_enter Try.func20, Try.ntmps20
  go_wp2_with (first | (go_at_call 63; (with_reducible refine (sized_calls _ _).mono ?_); rintro e w_63 ⟨rfl, rfl⟩; skip) | (go_at_call 64; (with_reducible refine (clone_calls _ _ l0 _ ?s1 ?s2).mono ?_); (case s1 => exact HR0.out); (case s2 => have := HL.out; omega); rintro e w_64 ⟨v64, rfl, ho, hb⟩; have n_ := Aside0.mk (BC.mv (by repeat (first | exact HR0.out | apply BC.alloc | apply BC.drewN | apply BC.drew)) hb); clear HR0; have HR0 := n_; clear n_; have n_ := Aside0.mk (below_step (by repeat (first | exact HB.out | apply below_alloc | apply pw_below_drewN | apply below_drew1)) hb); clear HB; have HB := n_; clear n_; clear hb; have HO := Aside0.mk ho; clear ho))
  go_loopg [8, 19] l2.length (fun g v8 v19 w' => ∃ i : Nat, i + g = l2.length ∧ v19 = .int .i64 i ∧ Aside0 (BR w' w.heap.size v8 (l0 ++ (l2.take i).flatMap (dig 2))) ∧ Aside0 (∀ x ∈ l2.take i, okN 2 x) ∧ Aside0 (Below w.heap.size w w'))
  case atStart => exact ⟨0, by omega, rfl, by simpa using HO, ⟨by simp⟩, HB⟩
  case round =>
    clear HO HB
    obtain ⟨i, hi, rfl, HO, HG, HB⟩ := hrel
    by_cases hlt : i < l2.length
    · obtain ⟨ad, e1, hx⟩ := HR2.out.atN i hlt
      subst e1
      replace hx := (HB.out.cell (World.block_lt_of_cell? w _ hx)).trans hx
      obtain ⟨x, hx0⟩ : ∃ x, l2.getD i 0 = x := ⟨_, rfl⟩
      rw [hx0] at hx
      have HX := Aside0.mk hx0
      clear hx0
      have q1 : (i : Int) < (l2.length : Int) := by omega
      replace q1 := eq_true q1
      by_cases hn : x < 0
      · go_wp2
        obtain ⟨rfl, rfl⟩ := Prod.mk.inj ((putS_bad l0 2 2 rfl l2 (by omega) x (HX.out ▸ getD_mem l2 i hlt) (fun h => by have := h.1; omega)).symm.trans HP.out)
        go_ret2
        exact ⟨_, rfl, BR.nil _ _, HB.out⟩
      by_cases hz : x / 65536 = 0
      · have z1 : (x / 65536 != 0) = false := by simp [hz]
        have HN := Aside0.mk (show okN 2 x from ⟨by omega, by show x < 65536; omega⟩)
        clear hz
        go_wp2
        go_loopg [8, 11] 2 (fun g v8 v11 w' => ∃ k : Nat, k = g ∧ k ≤ 2 ∧ v11 = .int .i64 (8 * (k : Int) - 8) ∧ Aside0 (BR w' w.heap.size v8 (l0 ++ (l2.take i).flatMap (dig 2) ++ (dig 2 x).take (2 - k))) ∧ Aside0 (Below w.heap.size w w'))
        case atStart => exact ⟨2, rfl, by omega, rfl, by simpa using HO, HB⟩
        case round =>
          clear HO HB
          obtain ⟨k, rfl, hk, rfl, HO, HB⟩ := hrel
          obtain (rfl | rfl | rfl) := (by omega : k = 2 ∨ k = 1 ∨ k = 0)

          · go_wp2_with (first | ((with_reducible refine gate_dst (N := 44) rfl ?_); refine lit_u8 (w0 := w) (N := 44) w.heap.size ?hg ?hd [x / 256 % 256] ?hr ?hB ?hS (by simp) ?_; (case hd => rfl); (case hg => rfl); (case hr => first | (go_simp; done) | (go_simp; rfl)); (case hB => exact (by repeat (first | exact HB.out | apply below_alloc | apply pw_below_drewN | apply below_drew1))); (case hS => exact below_size (by repeat (first | exact HB.out | apply below_alloc | apply pw_below_drewN | apply below_drew1))); intro v_a w_a ho hb hg hat; have n_ := Aside0.mk (BR.mv (by repeat (first | exact HO.out | apply BR.alloc | apply BR.drewN | apply BR.drew)) (below_of_grown_none hg)); clear HO; have HO := n_; clear n_; have n_ := Aside0.mk hb; clear HB; have HB := n_; clear n_; have HO_a := Aside0.mk ho; clear ho hb hg hat; obtain ⟨A_a, c_a, e_a, _, _⟩ := BR.reads HO_a.out; subst e_a) | ((with_reducible refine gate_builtin (b := .append) (xs := #[.tmp 39, .tmp 44]) rfl ?_); at_builtin; refine app_arm (w0 := w) w.heap.size rfl (.tmp 39) (.tmp 44) rfl _ (l0 ++ (l2.take i).flatMap (dig 2) ++ (dig 2 x).take (2 - 2)) [x / 256 % 256] _ _ _ rfl rfl ?aO ?aR ?aM ?aB ?aS ?aL ?_; (case aO => exact (by repeat (first | exact HO.out | apply BR.alloc | apply BR.drewN | apply BR.drew))); (case aR => exact HO_a.out.bc); (case aM => first | rfl | simp); (case aB => exact (by repeat (first | exact HB.out | apply below_alloc | apply pw_below_drewN | apply below_drew1))); (case aS => exact below_size (by repeat (first | exact HB.out | apply below_alloc | apply pw_below_drewN | apply below_drew1))); (case aL => (have := HL.out; have := flat_len 2 (by omega) l2 i (by omega); simp only [List.length_append, List.length_take, dig_length, List.length_cons, List.length_nil]; omega)); intro v_r w_r ho hb hg hat; have n_ := Aside0.mk hb; clear HB; have HB := n_; clear n_; have HO_r := Aside0.mk ho; clear ho hb; skip))
            go_roundg 1
            case measure => omega
            case rel => exact ⟨1, rfl, by omega, rfl, ⟨by simpa [dig, List.range_succ] using HO_r.out⟩, HB⟩

          · go_wp2_with (first | ((with_reducible refine gate_dst (N := 44) rfl ?_); refine lit_u8 (w0 := w) (N := 44) w.heap.size ?hg ?hd [x % 256] ?hr ?hB ?hS (by simp) ?_; (case hd => rfl); (case hg => rfl); (case hr => first | (go_simp; done) | (go_simp; rfl)); (case hB => exact (by repeat (first | exact HB.out | apply below_alloc | apply pw_below_drewN | apply below_drew1))); (case hS => exact below_size (by repeat (first | exact HB.out | apply below_alloc | apply pw_below_drewN | apply below_drew1))); intro v_a w_a ho hb hg hat; have n_ := Aside0.mk (BR.mv (by repeat (first | exact HO.out | apply BR.alloc | apply BR.drewN | apply BR.drew)) (below_of_grown_none hg)); clear HO; have HO := n_; clear n_; have n_ := Aside0.mk hb; clear HB; have HB := n_; clear n_; have HO_a := Aside0.mk ho; clear ho hb hg hat; obtain ⟨A_a, c_a, e_a, _, _⟩ := BR.reads HO_a.out; subst e_a) | ((with_reducible refine gate_builtin (b := .append) (xs := #[.tmp 39, .tmp 44]) rfl ?_); at_builtin; refine app_arm (w0 := w) w.heap.size rfl (.tmp 39) (.tmp 44) rfl _ (l0 ++ (l2.take i).flatMap (dig 2) ++ (dig 2 x).take (2 - 1)) [x % 256] _ _ _ rfl rfl ?aO ?aR ?aM ?aB ?aS ?aL ?_; (case aO => exact (by repeat (first | exact HO.out | apply BR.alloc | apply BR.drewN | apply BR.drew))); (case aR => exact HO_a.out.bc); (case aM => first | rfl | simp); (case aB => exact (by repeat (first | exact HB.out | apply below_alloc | apply pw_below_drewN | apply below_drew1))); (case aS => exact below_size (by repeat (first | exact HB.out | apply below_alloc | apply pw_below_drewN | apply below_drew1))); (case aL => (have := HL.out; have := flat_len 2 (by omega) l2 i (by omega); simp only [List.length_append, List.length_take, dig_length, List.length_cons, List.length_nil]; omega)); intro v_r w_r ho hb hg hat; have n_ := Aside0.mk hb; clear HB; have HB := n_; clear n_; have HO_r := Aside0.mk ho; clear ho hb; skip))
            go_roundg 0
            case measure => omega
            case rel => exact ⟨0, rfl, by omega, rfl, ⟨by simpa [dig, List.range_succ] using HO_r.out⟩, HB⟩

          · obtain ⟨g', rfl⟩ : ∃ g', gk = g' + 1 := ⟨gk - 1, by omega⟩
            go_wp2
            go_roundg g'
            case measure => omega
            case rel => exact ⟨i + 1, by omega, by go_num, ⟨by rw [flat_snoc 2 l2 i hlt, HX.out, ← List.append_assoc]; simpa [dig_length, List.take_of_length_le] using HO.out⟩, ⟨good_snoc 2 l2 i hlt HG.out (by rw [HX.out]; exact HN.out)⟩, HB⟩

      · have z1 : (x / 65536 != 0) = true := by simp [hz]
        go_wp2
        obtain ⟨rfl, rfl⟩ := Prod.mk.inj ((putS_bad l0 2 2 rfl l2 (by omega) x (HX.out ▸ getD_mem l2 i hlt) (fun h => by have : x < 65536 := h.2; have := h.1; omega)).symm.trans HP.out)
        go_ret2
        exact ⟨_, rfl, BR.nil _ _, HB.out⟩
    · have e : i = l2.length := by omega
      subst e
      obtain ⟨rfl, rfl⟩ := Prod.mk.inj ((putS_good l0 2 2 rfl l2 (by omega) (by simpa using HG.out)).symm.trans HP.out)
      go_wp2
      go_ret2
      exact ⟨_, rfl, by simpa using HO.out, HB.out⟩
set_option maxHeartbeats 8000000 in
set_option maxRecDepth 100000 in
theorem oput_4 (A0 : Option Addr) (c0 : Nat) (l0 : List Int) (A2 : Option Addr) (c2 : Nat) (l2 : List Int) (r1 : List Int) (r2 : Int) (w : World) (hr0 : BC w A0 l0) (hr2 : IC w A2 l2) (hlen : l0.length + 4 * l2.length < 140737488355328) (h : putS l0 4 l2 = (r1, r2)) :
    Calls Try.prog 20 #[.slice A0 l0.length c0, .int .i64 4, .slice A2 l2.length c2] w fun e w' => ∃ v0_ : Value, e = .returned (.tuple #[v0_, .int .i64 r2]) ∧ BR w' w.heap.size v0_ r1 ∧ Below w.heap.size w w' := by
  have HR0 := Aside0.mk hr0
  have HR2 := Aside0.mk hr2
  have HL := Aside0.mk hlen
  have HP := Aside0.mk h
  have hm2 := hr2.max
  clear hr0 hlen hr2 h
  have HB := Aside0.mk (Below.refl w.heap.size w)
  go_enter Try.func20, Try.ntmps20
  go_wp2_with (first | (go_at_call 63; (with_reducible refine (sized_calls _ _).mono ?_); rintro e w_63 ⟨rfl, rfl⟩; skip) | (go_at_call 64; (with_reducible refine (clone_calls _ _ l0 _ ?s1 ?s2).mono ?_); (case s1 => exact HR0.out); (case s2 => have := HL.out; omega); rintro e w_64 ⟨v64, rfl, ho, hb⟩; have n_ := Aside0.mk (BC.mv (by repeat (first | exact HR0.out | apply BC.alloc | apply BC.drewN | apply BC.drew)) hb); clear HR0; have HR0 := n_; clear n_; have n_ := Aside0.mk (below_step (by repeat (first | exact HB.out | apply below_alloc | apply pw_below_drewN | apply below_drew1)) hb); clear HB; have HB := n_; clear n_; clear hb; have HO := Aside0.mk ho; clear ho))
  go_loopg [8, 19] l2.length (fun g v8 v19 w' => ∃ i : Nat, i + g = l2.length ∧ v19 = .int .i64 i ∧ Aside0 (BR w' w.heap.size v8 (l0 ++ (l2.take i).flatMap (dig 4))) ∧ Aside0 (∀ x ∈ l2.take i, okN 4 x) ∧ Aside0 (Below w.heap.size w w'))
  case atStart => exact ⟨0, by omega, rfl, by simpa using HO, ⟨by simp⟩, HB⟩
  case round =>
    clear HO HB
    obtain ⟨i, hi, rfl, HO, HG, HB⟩ := hrel
    by_cases hlt : i < l2.length
    · obtain ⟨ad, e1, hx⟩ := HR2.out.atN i hlt
      subst e1
      replace hx := (HB.out.cell (World.block_lt_of_cell? w _ hx)).trans hx
      obtain ⟨x, hx0⟩ : ∃ x, l2.getD i 0 = x := ⟨_, rfl⟩
      rw [hx0] at hx
      have HX := Aside0.mk hx0
      clear hx0
      have q1 : (i : Int) < (l2.length : Int) := by omega
      replace q1 := eq_true q1
      by_cases hn : x < 0
      · go_wp2
        obtain ⟨rfl, rfl⟩ := Prod.mk.inj ((putS_bad l0 4 4 rfl l2 (by omega) x (HX.out ▸ getD_mem l2 i hlt) (fun h => by have := h.1; omega)).symm.trans HP.out)
        go_ret2
        exact ⟨_, rfl, BR.nil _ _, HB.out⟩
      by_cases hz : x / 4294967296 = 0
      · have z1 : (x / 4294967296 != 0) = false := by simp [hz]
        have HN := Aside0.mk (show okN 4 x from ⟨by omega, by show x < 4294967296; omega⟩)
        clear hz
        go_wp2
        go_loopg [8, 11] 4 (fun g v8 v11 w' => ∃ k : Nat, k = g ∧ k ≤ 4 ∧ v11 = .int .i64 (8 * (k : Int) - 8) ∧ Aside0 (BR w' w.heap.size v8 (l0 ++ (l2.take i).flatMap (dig 4) ++ (dig 4 x).take (4 - k))) ∧ Aside0 (Below w.heap.size w w'))
        case atStart => exact ⟨4, rfl, by omega, rfl, by simpa using HO, HB⟩
        case round =>
          clear HO HB
          obtain ⟨k, rfl, hk, rfl, HO, HB⟩ := hrel
          obtain (rfl | rfl | rfl | rfl | rfl) := (by omega : k = 4 ∨ k = 3 ∨ k = 2 ∨ k = 1 ∨ k = 0)

          · go_wp2_with (first | ((with_reducible refine gate_dst (N := 44) rfl ?_); refine lit_u8 (w0 := w) (N := 44) w.heap.size ?hg ?hd [x / 16777216 % 256] ?hr ?hB ?hS (by simp) ?_; (case hd => rfl); (case hg => rfl); (case hr => first | (go_simp; done) | (go_simp; rfl)); (case hB => exact (by repeat (first | exact HB.out | apply below_alloc | apply pw_below_drewN | apply below_drew1))); (case hS => exact below_size (by repeat (first | exact HB.out | apply below_alloc | apply pw_below_drewN | apply below_drew1))); intro v_a w_a ho hb hg hat; have n_ := Aside0.mk (BR.mv (by repeat (first | exact HO.out | apply BR.alloc | apply BR.drewN | apply BR.drew)) (below_of_grown_none hg)); clear HO; have HO := n_; clear n_; have n_ := Aside0.mk hb; clear HB; have HB := n_; clear n_; have HO_a := Aside0.mk ho; clear ho hb hg hat; obtain ⟨A_a, c_a, e_a, _, _⟩ := BR.reads HO_a.out; subst e_a) | ((with_reducible refine gate_builtin (b := .append) (xs := #[.tmp 39, .tmp 44]) rfl ?_); at_builtin; refine app_arm (w0 := w) w.heap.size rfl (.tmp 39) (.tmp 44) rfl _ (l0 ++ (l2.take i).flatMap (dig 4) ++ (dig 4 x).take (4 - 4)) [x / 16777216 % 256] _ _ _ rfl rfl ?aO ?aR ?aM ?aB ?aS ?aL ?_; (case aO => exact (by repeat (first | exact HO.out | apply BR.alloc | apply BR.drewN | apply BR.drew))); (case aR => exact HO_a.out.bc); (case aM => first | rfl | simp); (case aB => exact (by repeat (first | exact HB.out | apply below_alloc | apply pw_below_drewN | apply below_drew1))); (case aS => exact below_size (by repeat (first | exact HB.out | apply below_alloc | apply pw_below_drewN | apply below_drew1))); (case aL => (have := HL.out; have := flat_len 4 (by omega) l2 i (by omega); simp only [List.length_append, List.length_take, dig_length, List.length_cons, List.length_nil]; omega)); intro v_r w_r ho hb hg hat; have n_ := Aside0.mk hb; clear HB; have HB := n_; clear n_; have HO_r := Aside0.mk ho; clear ho hb; skip))
            go_roundg 3
            case measure => omega
            case rel => exact ⟨3, rfl, by omega, rfl, ⟨by simpa [dig, List.range_succ] using HO_r.out⟩, HB⟩

          · go_wp2_with (first | ((with_reducible refine gate_dst (N := 44) rfl ?_); refine lit_u8 (w0 := w) (N := 44) w.heap.size ?hg ?hd [x / 65536 % 256] ?hr ?hB ?hS (by simp) ?_; (case hd => rfl); (case hg => rfl); (case hr => first | (go_simp; done) | (go_simp; rfl)); (case hB => exact (by repeat (first | exact HB.out | apply below_alloc | apply pw_below_drewN | apply below_drew1))); (case hS => exact below_size (by repeat (first | exact HB.out | apply below_alloc | apply pw_below_drewN | apply below_drew1))); intro v_a w_a ho hb hg hat; have n_ := Aside0.mk (BR.mv (by repeat (first | exact HO.out | apply BR.alloc | apply BR.drewN | apply BR.drew)) (below_of_grown_none hg)); clear HO; have HO := n_; clear n_; have n_ := Aside0.mk hb; clear HB; have HB := n_; clear n_; have HO_a := Aside0.mk ho; clear ho hb hg hat; obtain ⟨A_a, c_a, e_a, _, _⟩ := BR.reads HO_a.out; subst e_a) | ((with_reducible refine gate_builtin (b := .append) (xs := #[.tmp 39, .tmp 44]) rfl ?_); at_builtin; refine app_arm (w0 := w) w.heap.size rfl (.tmp 39) (.tmp 44) rfl _ (l0 ++ (l2.take i).flatMap (dig 4) ++ (dig 4 x).take (4 - 3)) [x / 65536 % 256] _ _ _ rfl rfl ?aO ?aR ?aM ?aB ?aS ?aL ?_; (case aO => exact (by repeat (first | exact HO.out | apply BR.alloc | apply BR.drewN | apply BR.drew))); (case aR => exact HO_a.out.bc); (case aM => first | rfl | simp); (case aB => exact (by repeat (first | exact HB.out | apply below_alloc | apply pw_below_drewN | apply below_drew1))); (case aS => exact below_size (by repeat (first | exact HB.out | apply below_alloc | apply pw_below_drewN | apply below_drew1))); (case aL => (have := HL.out; have := flat_len 4 (by omega) l2 i (by omega); simp only [List.length_append, List.length_take, dig_length, List.length_cons, List.length_nil]; omega)); intro v_r w_r ho hb hg hat; have n_ := Aside0.mk hb; clear HB; have HB := n_; clear n_; have HO_r := Aside0.mk ho; clear ho hb; skip))
            go_roundg 2
            case measure => omega
            case rel => exact ⟨2, rfl, by omega, rfl, ⟨by simpa [dig, List.range_succ] using HO_r.out⟩, HB⟩

          · go_wp2_with (first | ((with_reducible refine gate_dst (N := 44) rfl ?_); refine lit_u8 (w0 := w) (N := 44) w.heap.size ?hg ?hd [x / 256 % 256] ?hr ?hB ?hS (by simp) ?_; (case hd => rfl); (case hg => rfl); (case hr => first | (go_simp; done) | (go_simp; rfl)); (case hB => exact (by repeat (first | exact HB.out | apply below_alloc | apply pw_below_drewN | apply below_drew1))); (case hS => exact below_size (by repeat (first | exact HB.out | apply below_alloc | apply pw_below_drewN | apply below_drew1))); intro v_a w_a ho hb hg hat; have n_ := Aside0.mk (BR.mv (by repeat (first | exact HO.out | apply BR.alloc | apply BR.drewN | apply BR.drew)) (below_of_grown_none hg)); clear HO; have HO := n_; clear n_; have n_ := Aside0.mk hb; clear HB; have HB := n_; clear n_; have HO_a := Aside0.mk ho; clear ho hb hg hat; obtain ⟨A_a, c_a, e_a, _, _⟩ := BR.reads HO_a.out; subst e_a) | ((with_reducible refine gate_builtin (b := .append) (xs := #[.tmp 39, .tmp 44]) rfl ?_); at_builtin; refine app_arm (w0 := w) w.heap.size rfl (.tmp 39) (.tmp 44) rfl _ (l0 ++ (l2.take i).flatMap (dig 4) ++ (dig 4 x).take (4 - 2)) [x / 256 % 256] _ _ _ rfl rfl ?aO ?aR ?aM ?aB ?aS ?aL ?_; (case aO => exact (by repeat (first | exact HO.out | apply BR.alloc | apply BR.drewN | apply BR.drew))); (case aR => exact HO_a.out.bc); (case aM => first | rfl | simp); (case aB => exact (by repeat (first | exact HB.out | apply below_alloc | apply pw_below_drewN | apply below_drew1))); (case aS => exact below_size (by repeat (first | exact HB.out | apply below_alloc | apply pw_below_drewN | apply below_drew1))); (case aL => (have := HL.out; have := flat_len 4 (by omega) l2 i (by omega); simp only [List.length_append, List.length_take, dig_length, List.length_cons, List.length_nil]; omega)); intro v_r w_r ho hb hg hat; have n_ := Aside0.mk hb; clear HB; have HB := n_; clear n_; have HO_r := Aside0.mk ho; clear ho hb; skip))
            go_roundg 1
            case measure => omega
            case rel => exact ⟨1, rfl, by omega, rfl, ⟨by simpa [dig, List.range_succ] using HO_r.out⟩, HB⟩

          · go_wp2_with (first | ((with_reducible refine gate_dst (N := 44) rfl ?_); refine lit_u8 (w0 := w) (N := 44) w.heap.size ?hg ?hd [x % 256] ?hr ?hB ?hS (by simp) ?_; (case hd => rfl); (case hg => rfl); (case hr => first | (go_simp; done) | (go_simp; rfl)); (case hB => exact (by repeat (first | exact HB.out | apply below_alloc | apply pw_below_drewN | apply below_drew1))); (case hS => exact below_size (by repeat (first | exact HB.out | apply below_alloc | apply pw_below_drewN | apply below_drew1))); intro v_a w_a ho hb hg hat; have n_ := Aside0.mk (BR.mv (by repeat (first | exact HO.out | apply BR.alloc | apply BR.drewN | apply BR.drew)) (below_of_grown_none hg)); clear HO; have HO := n_; clear n_; have n_ := Aside0.mk hb; clear HB; have HB := n_; clear n_; have HO_a := Aside0.mk ho; clear ho hb hg hat; obtain ⟨A_a, c_a, e_a, _, _⟩ := BR.reads HO_a.out; subst e_a) | ((with_reducible refine gate_builtin (b := .append) (xs := #[.tmp 39, .tmp 44]) rfl ?_); at_builtin; refine app_arm (w0 := w) w.heap.size rfl (.tmp 39) (.tmp 44) rfl _ (l0 ++ (l2.take i).flatMap (dig 4) ++ (dig 4 x).take (4 - 1)) [x % 256] _ _ _ rfl rfl ?aO ?aR ?aM ?aB ?aS ?aL ?_; (case aO => exact (by repeat (first | exact HO.out | apply BR.alloc | apply BR.drewN | apply BR.drew))); (case aR => exact HO_a.out.bc); (case aM => first | rfl | simp); (case aB => exact (by repeat (first | exact HB.out | apply below_alloc | apply pw_below_drewN | apply below_drew1))); (case aS => exact below_size (by repeat (first | exact HB.out | apply below_alloc | apply pw_below_drewN | apply below_drew1))); (case aL => (have := HL.out; have := flat_len 4 (by omega) l2 i (by omega); simp only [List.length_append, List.length_take, dig_length, List.length_cons, List.length_nil]; omega)); intro v_r w_r ho hb hg hat; have n_ := Aside0.mk hb; clear HB; have HB := n_; clear n_; have HO_r := Aside0.mk ho; clear ho hb; skip))
            go_roundg 0
            case measure => omega
            case rel => exact ⟨0, rfl, by omega, rfl, ⟨by simpa [dig, List.range_succ] using HO_r.out⟩, HB⟩

          · obtain ⟨g', rfl⟩ : ∃ g', gk = g' + 1 := ⟨gk - 1, by omega⟩
            go_wp2
            go_roundg g'
            case measure => omega
            case rel => exact ⟨i + 1, by omega, by go_num, ⟨by rw [flat_snoc 4 l2 i hlt, HX.out, ← List.append_assoc]; simpa [dig_length, List.take_of_length_le] using HO.out⟩, ⟨good_snoc 4 l2 i hlt HG.out (by rw [HX.out]; exact HN.out)⟩, HB⟩

      · have z1 : (x / 4294967296 != 0) = true := by simp [hz]
        go_wp2
        obtain ⟨rfl, rfl⟩ := Prod.mk.inj ((putS_bad l0 4 4 rfl l2 (by omega) x (HX.out ▸ getD_mem l2 i hlt) (fun h => by have : x < 4294967296 := h.2; have := h.1; omega)).symm.trans HP.out)
        go_ret2
        exact ⟨_, rfl, BR.nil _ _, HB.out⟩
    · have e : i = l2.length := by omega
      subst e
      obtain ⟨rfl, rfl⟩ := Prod.mk.inj ((putS_good l0 4 4 rfl l2 (by omega) (by simpa using HG.out)).symm.trans HP.out)
      go_wp2
      go_ret2
      exact ⟨_, rfl, by simpa using HO.out, HB.out⟩
set_option maxHeartbeats 8000000 in
set_option maxRecDepth 100000 in
theorem oput_calls (A0 : Option Addr) (c0 : Nat) (l0 : List Int) (a1 : Int) (A2 : Option Addr) (c2 : Nat) (l2 : List Int) (r1 : List Int) (r2 : Int) (w : World) (hr0 : BC w A0 l0) (hr2 : IC w A2 l2) (hlen : l0.length + 4 * l2.length < 140737488355328) (h : putS l0 a1 l2 = (r1, r2)) :
    Calls Try.prog 20 #[.slice A0 l0.length c0, .int .i64 a1, .slice A2 l2.length c2] w fun e w' => ∃ v0_ : Value, e = .returned (.tuple #[v0_, .int .i64 r2]) ∧ BR w' w.heap.size v0_ r1 ∧ Below w.heap.size w w' := by
  by_cases hs : a1 = 1 ∨ a1 = 2 ∨ a1 = 4
  · rcases hs with rfl | rfl | rfl
    · exact oput_1 A0 c0 l0 A2 c2 l2 r1 r2 w hr0 hr2 hlen h
    · exact oput_2 A0 c0 l0 A2 c2 l2 r1 r2 w hr0 hr2 hlen h
    · exact oput_4 A0 c0 l0 A2 c2 l2 r1 r2 w hr0 hr2 hlen h
  · have hd : decide (a1 = 1 ∨ a1 = 2 ∨ a1 = 4) = false := decide_eq_false hs
    obtain ⟨rfl, rfl⟩ := Prod.mk.inj ((putS_no l0 a1 l2 hs).symm.trans h)
    clear h
    go_enter Try.func20, Try.ntmps20
    go_wp2_with (first | (go_at_call 63; (with_reducible refine (sized_calls _ _).mono ?_); rintro e w_63 ⟨rfl, rfl⟩; rw [hd]; skip))
    go_ret2
    exact ⟨_, rfl, BR.nil _ _, Below.refl _ _⟩

end Go.Proofs.Ytkgjmajabgpadaa
