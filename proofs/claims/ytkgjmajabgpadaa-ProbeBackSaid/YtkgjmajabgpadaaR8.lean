import Derived.Test.YtkgjmajabgpadaaR4
namespace Go.Proofs.Ytkgjmajabgpadaa
set_option linter.unusedVariables false
set_option linter.unusedSimpArgs false
open Go.RowKit Go.Shelf Go.Proofs.YtkgjmajabgpadaaW.PrintWords Go.Proofs.YtkgjmajabgpadaaW.PrintLast Go.Proofs.YtkgjmajabgpadaaW.PrintMore
attribute [local go_sem] Oper.semAt_some
/-- What the program's Parse has read behind those readings: the cells, the reader's state. -/
def stepP (s : Array Value × (List Int × Int)) (j : Nat) : Array Value × (List Int × Int) := (s.1.setIfInBounds j (.int .i64 (rNum s.2.1 s.2.2 (szP j)).1), (rNum s.2.1 s.2.2 (szP j)).2)
def runP (body : List Int) (l : List Nat) : Array Value × (List Int × Int) := l.foldl stepP (#[.int .i64 0, .int .i64 0, .int .i64 0, .int .i64 0, .int .i64 0], (body, 0))
theorem runP_snoc (body : List Int) (l : List Nat) (j : Nat) : runP body (l ++ [j]) = stepP (runP body l) j := by simp [runP]
def IntsP (s : Array Value × (List Int × Int)) : Prop := s.1.size = 5 ∧ (∀ (i : Nat) (u : Value), s.1[i]? = some u → ∃ z, u = .int .i64 z) ∧ bytesP s.2.1
theorem IntsP.step {s : Array Value × (List Int × Int)} (h : IntsP s) (j : Nat) : IntsP (stepP s j) := by
  obtain ⟨h1, h2, h3⟩ := h
  refine ⟨by simp [stepP, h1], fun i u hu => ?_, rNum_bytes h3⟩
  simp only [stepP, Array.getElem?_setIfInBounds] at hu
  split at hu
  · split at hu
    · injection hu with hu
      exact ⟨_, hu.symm⟩
    · cases hu
  · exact h2 i u hu
theorem IntsP.start {body : List Int} (h : bytesP body) : IntsP (#[.int .i64 0, .int .i64 0, .int .i64 0, .int .i64 0, .int .i64 0], (body, 0)) := by
  refine ⟨rfl, fun i u hu => ?_, h⟩
  rcases i with _ | _ | _ | _ | _ | i <;> simp at hu <;> exact ⟨0, hu.symm⟩
theorem foldl_ints : ∀ (l : List Nat) (s : Array Value × (List Int × Int)), IntsP s → IntsP (l.foldl stepP s)
  | [], _, h => h
  | j :: l, s, h => foldl_ints l _ (h.step j)
theorem runP_ints {body : List Int} (h : bytesP body) (l : List Nat) : IntsP (runP body l) := foldl_ints l _ (IntsP.start h)
theorem runP_all (body : List Int) : runP body [0, 1, 2, 3, 4] = (prbV (theP body), lastP body) := rfl
theorem Rb.grown {w w1 : World} {T g : Nat} {l : List Int} {e : Int} {row : Option Nat} (h : Rb w T g l e) (hg : w.grownBy w1 row) (hr : ∀ r, row = some r → ∃ o : Obj, w.heap[r]? = some o ∧ o.isCells = false) : Rb w1 T g l e := by
  obtain ⟨A, c, hb, hc, h⟩ := h
  have h1 : Bk w1 g #[.slice A l.length c, .int .i64 e] T := (show Bk w g _ T from hb).grown hg hr
  have h2 : BV w1 (.slice A l.length c) l := BV.grown ⟨A, c, rfl, hc, h⟩ hg hr
  exact ⟨A, c, h1, hc, h2.slice.2.2⟩
theorem Rb.kpx {w w1 : World} {T g g' : Nat} {l : List Int} {e : Int} {cs : Array Value} {t : TypeId} (h : Rb w T g l e) (hg : Bk w g' cs t) (hcs : ∀ (i : Nat) (u : Value), cs[i]? = some u → ∃ z, u = .int .i64 z) (hk : Kp w w1 g') (hne : g ≠ g') : Rb w1 T g l e := by
  obtain ⟨A, c, hb, hc, h⟩ := h
  have h1 : Bk w1 g #[.slice A l.length c, .int .i64 e] T := (show Bk w g _ T from hb).kp hk hne
  have h2 : BV w1 (.slice A l.length c) l := BV.kpx ⟨A, c, rfl, hc, h⟩ hg (fun i u hu x e => by obtain ⟨z, rfl⟩ := hcs i u hu; injection e with e _; cases e) hk
  exact ⟨A, c, h1, hc, h2.slice.2.2⟩
theorem def5 {w : World} {g D : Nat} {o : Obj} (h : w.heap[D]? = some o) (hne : D ≠ g) (a b c d e : Value) : (((((w.setCell ⟨g, 0, none⟩ a).setCell ⟨g, 1, none⟩ b).setCell ⟨g, 2, none⟩ c).setCell ⟨g, 3, none⟩ d).setCell ⟨g, 4, none⟩ e).heap[D]? = some o :=
  (Below.heap_setCell _ _ _ _ hne).trans ((Below.heap_setCell _ _ _ _ hne).trans ((Below.heap_setCell _ _ _ _ hne).trans ((Below.heap_setCell _ _ _ _ hne).trans ((Below.heap_setCell _ _ _ _ hne).trans h))))
set_option maxHeartbeats 8000000 in
set_option maxRecDepth 100000 in
theorem pparse_c (v0 : Value) (b : List Int) (w : World) (h0 : BV w v0 b) (hb : bytesP b) (p : Prb) (e0 : Int) (hs : parseP b = (p, e0)) : Calls Try.prog 60 #[v0] w fun e w' => e = .returned (.tuple #[.agg (prbV p), .int .i64 e0]) ∧ Below w.heap.size w w' := by
  have HB := Aside0.mk (Below.refl w.heap.size w)
  have H0 := Aside0.mk h0
  have HBB := Aside0.mk hb
  have HS := Aside0.mk hs
  have hbd := openS_bytes hb
  obtain ⟨k, body, eo, hop⟩ : ∃ k body eo, openS b = (k, body, eo) := ⟨_, _, _, rfl⟩
  rw [hop] at hbd
  have HBD := Aside0.mk (show bytesP body from hbd)
  have HOP := Aside0.mk hop
  clear h0 hb hs hop hbd
  by_cases he : eo = 0
  · subst he
    refine callsIn_wide.1 (callsIn_of_wp_marks (F := Fence.wide) (n := 4) Try.func60 rfl trivial ?_ rfl)
    refine wpIn_wide.2 ?_
    simp only [Try.ntmps60, List.size_toArray, List.length_cons, List.length_nil, Nat.reduceAdd, Nat.reduceSub, Array.replicate_succ, Array.replicate_zero, List.push_toArray, List.append_toArray, List.nil_append, List.cons_append]
    go_wp2_with (first | (go_at_call 30; (with_reducible refine (oopen_v v0 b k body 0 _ ?s0 ?s1 HOP.out).mono ?_); (case s0 => exact H0.out.mv (by repeat (first | (with_reducible first | exact HB.out | apply below_alloc | apply pw_below_drewN | apply below_drew1) | exact HB.out))); (case s1 => exact HBB.out); rintro e w_o ⟨v_o, rfl, ho, hb⟩; have HO := Aside0.mk (ho.lower (below_size (by repeat (first | (with_reducible first | exact HB.out | apply below_alloc | apply pw_below_drewN | apply below_drew1) | exact HB.out)))); have HZ := Aside0.mk (Bk.mv (by repeat (first | (with_reducible first | exact Bk.alloc0 _ _ _ | apply Bk.drewN | apply Bk.drew) | exact Bk.alloc0 _ _ _)) hb); have n_ := Aside0.mk (below_step (by repeat (first | (with_reducible first | exact HB.out | apply below_alloc | apply pw_below_drewN | apply below_drew1) | exact HB.out)) hb); clear HB; have HB := n_; clear ho hb n_; have hc0 : World.cell? _ ⟨w.heap.size, 0, none⟩ = some (Value.int .i64 0) := HZ.out.cell 0; have hf0 := HZ.out.frozen 0; have hc1 : World.cell? _ ⟨w.heap.size, 1, none⟩ = some (Value.int .i64 0) := HZ.out.cell 1; have hf1 := HZ.out.frozen 1; have hc2 : World.cell? _ ⟨w.heap.size, 2, none⟩ = some (Value.int .i64 0) := HZ.out.cell 2; have hf2 := HZ.out.frozen 2; have hc3 : World.cell? _ ⟨w.heap.size, 3, none⟩ = some (Value.int .i64 0) := HZ.out.cell 3; have hf3 := HZ.out.frozen 3; have hc4 : World.cell? _ ⟨w.heap.size, 4, none⟩ = some (Value.int .i64 0) := HZ.out.cell 4; have hf4 := HZ.out.frozen 4; skip) | (go_at_call 40; (with_reducible refine (oread_v v_o body _ ?s0).mono ?_); (case s0 => exact HO.out.bv); rintro e w_R ⟨gr, rfl, hgr, hr, hb⟩; have HRR := Aside0.mk hr; have HGR := Aside0.mk (show w.heap.size < gr from by rw [hgr]; exact HZ.out.lt); have n_ := Aside0.mk (Bk.mv (by repeat (first | (with_reducible first | exact HZ.out | apply Bk.alloc | apply Bk.drewN | apply Bk.drew))) hb); clear HZ; have HZ := n_; clear n_; have n_ := Aside0.mk (below_step (by repeat (first | (with_reducible first | exact HB.out | apply below_alloc | apply pw_below_drewN | apply below_drew1) | exact HB.out)) hb); clear HB; have HB := n_; clear n_ hb hr hgr hc0 hc1 hc2 hc3 hc4 hf0 hf1 hf2 hf3 hf4; skip) | (go_at_call 66; (generalize hW1 : World.alloc w_R (.cells #[.pointer (some ⟨gr, 0, none⟩)] 49) = W1); have hb1 : Below w_R.heap.size w_R W1 := hW1 ▸ below_alloc (Below.refl w_R.heap.size w_R) _; have HQ0 := Aside0.mk (show Bk W1 w_R.heap.size #[.pointer (some ⟨gr, 0, none⟩)] 49 from hW1 ▸ Bk.alloc0 w_R _ _); clear hW1; have HRL := Aside0.mk (show gr < w_R.heap.size from HRR.out.lt); have HQL := Aside0.mk (show w_R.heap.size < W1.heap.size from HQ0.out.lt); with_reducible refine (numbers_c (some ⟨w.heap.size, 0, none⟩) W1).mono ?_; rintro e w_n ⟨rfl, hw⟩; have hb2 : Below W1.heap.size W1 w_n := hw ▸ below_alloc (Below.refl W1.heap.size W1) _; have HN := Aside0.mk (show Bk w_n W1.heap.size #[.pointer (some ⟨w.heap.size, 0, none⟩)] 81 from hw ▸ Bk.alloc0 W1 _ _); clear hw; have HQ := Aside0.mk (HQ0.out.mv hb2); have n_ := Aside0.mk ((HZ.out.mv hb1).mv hb2); clear HZ; have HZ := n_; clear n_; have n_ := Aside0.mk ((HRR.out.mv hb1).mv hb2); clear HRR; have HRR := n_; clear n_; have n_ := Aside0.mk (below_step (below_step HB.out hb1) hb2); clear HB HQ0; have HB := n_; clear n_; have HNK := Aside0.mk hb2; clear hb1 hb2; skip))
    refine (wpIn_wide (n := 4)).1 ?_
    refine wpIn_rangeFunc_ownG (F := Fence.wide) rfl (by omega) (gf := 72) (lb := #[.pointer (some ⟨W1.heap.size, 0, none⟩)]) rfl trivial (enters_of Try.func72 (by kernel_rfl) rfl)
      (numbers_stops 3 W1.heap.size w.heap.size (by omega) w_n HN.out) (fun h k => h.trans k) (fun W l o o' hl h hc hw => kx_b W l o o' hl h hc hw) (Below.refl _ _) (fun _ => rfl)
      (fun pre W => Bk W w.heap.size (runP body (pre.map Fin.val)).1 42 ∧ Bk W w_R.heap.size #[.pointer (some ⟨gr, 0, none⟩)] 49 ∧ Rb W 60 gr (runP body (pre.map Fin.val)).2.1 (runP body (pre.map Fin.val)).2.2 ∧ Below w.heap.size w W)
      (fun _ _ _ => False) ?hI (fun _ _ _ _ _ hs _ _ => hs) ?h0 ?a1 ?assign ?body ?done ?stop
    case assign =>
      intro l x W K hK
      simp only [encsP]
      gi_wp2
      exact hK
    case hI =>
      rintro s W W' row ⟨hp, hq, hr, hB⟩ hg hw
      have hw' := fun r e => (hw r e).2
      exact ⟨hp.grown hg hw', hq.grown hg hw', hr.grown hg hw', hB.grown hg hB.size (fun k e => Nat.le_trans HB.out.size (hw k e).1)⟩
    case h0 => exact ⟨HZ.out, HQ.out, HRR.out, HB.out⟩
    case stop =>
      rintro D c pre W _ _ h _
      exact h.elim
    case body =>
      rintro l pre x W ⟨hp, hq, hr, hB⟩ _
      obtain ⟨hi1, hi2, hi3⟩ := runP_ints HBD.out (pre.map Fin.val)
      have hsn : runP body ((pre ++ [x]).map Fin.val) = stepP (runP body (pre.map Fin.val)) x.val := by rw [List.map_append]; exact runP_snoc body _ _
      obtain ⟨⟨cs, l1, e1⟩, hrun⟩ : ∃ s, runP body (pre.map Fin.val) = s := ⟨_, rfl⟩
      rw [hrun] at hp hr hi1 hi2 hi3 hsn
      obtain ⟨y, st2, hnm⟩ : ∃ y st2, rNum l1 e1 (szP x.val : Nat) = (y, st2) := ⟨_, _, rfl⟩
      have hst : stepP (cs, l1, e1) x.val = (cs.setIfInBounds x.val (.int .i64 y), st2) := by unfold stepP; rw [hnm]
      rw [hst] at hsn
      obtain ⟨u, hu⟩ : ∃ u, cs[x.val]? = some u := ⟨cs[x.val]'(by have := x.isLt; have h5 : cs.size = 5 := hi1; omega), by simp⟩
      have HSN := Aside0.mk hsn
      have HNM := Aside0.mk hnm
      have HP1 := Aside0.mk (show Bk W w.heap.size cs 42 from hp)
      have HR1 := Aside0.mk (show Rb W 60 gr l1 e1 from hr)
      have HY1 := Aside0.mk (show bytesP l1 from hi3)
      have HI2 := Aside0.mk hi2
      have HQ1 := Aside0.mk hq
      have HB1 := Aside0.mk hB
      have hqc : W.cell? ⟨w_R.heap.size, 0, none⟩ = some (.pointer (some ⟨gr, 0, none⟩)) := hq.cell 0
      clear hp hq hr hB hi1 hi2 hi3 hsn hrun hnm hst HB HZ HQ HN HRR
      refine wpIn_block ?_
      refine plain_in (by kernel_rfl) (fun ⟨_, _, h⟩ => h) ?_
      go_wp2_with (first | (go_at_call 42; (with_reducible refine (onum_c gr l1 e1 (szP x.val : Nat) y st2 W HR1.out HY1.out HNM.out).mono ?_); rintro e w_y ⟨rfl, hr, hk⟩; have HR2 := Aside0.mk hr; have HK2 := Aside0.mk hk; have hxc2 : World.cell? w_y ⟨w.heap.size, x.val, none⟩ = some u := ((HP1.out.kp hk (Nat.ne_of_lt HGR.out)).cell _).trans hu; have hxf2 := (HP1.out.kp hk (Nat.ne_of_lt HGR.out)).frozen x.val; clear hr hk; skip))
      have hk := HK2.out
      have hlt := HGR.out
      have hrl := HRL.out
      have hql := HQL.out
      have hP2 := HP1.out.kp hk (Nat.ne_of_lt HGR.out)
      have hky : Ky W1.heap.size W _ := (Ky.of_kp hk (by omega : gr < W1.heap.size)).setCell (by omega : w.heap.size < W1.heap.size) x.val (.int .i64 y)
      refine ⟨hky.from HNK.out.size, hky.kx, ?_, (HQ1.out.kp hk (by omega)).other _ _ (by omega), ?_, (below_kp HB1.out hk (by omega) HB1.out.size).setCell (p := ⟨w.heap.size, x.val, none⟩) (Nat.le_refl _) _⟩
      · rw [HSN.out]; exact hP2.put _ _
      · rw [HSN.out]; exact HR2.out.kpx hP2 HI2.out ((Kp.refl _ _).set_ _ _) (by omega)
    case done =>
      rintro D xs W hD rfl ⟨hp, hq, hr, hB⟩ hK
      have hrun : runP body (([0, 1, 2, 3, 4] : List (Fin 5)).map Fin.val) = (prbV (theP body), lastP body) := runP_all body
      rw [hrun] at hp hr
      have hgo : goodP k body ↔ k = 2 ∧ rEnd (lastP body).1 (lastP body).2 = 0 ∧ okP (x0P body) (x1P body) (x2P body) (x3P body) (x4P body) := Iff.rfl
      have hth : theP body = (x0P body, x1P body, x2P body, x3P body, x4P body) := rfl
      rw [hth] at hp
      obtain ⟨x0, e0'⟩ : ∃ x, x0P body = x := ⟨_, rfl⟩
      obtain ⟨x1, e1'⟩ : ∃ x, x1P body = x := ⟨_, rfl⟩
      obtain ⟨x2, e2'⟩ : ∃ x, x2P body = x := ⟨_, rfl⟩
      obtain ⟨x3, e3'⟩ : ∃ x, x3P body = x := ⟨_, rfl⟩
      obtain ⟨x4, e4'⟩ : ∃ x, x4P body = x := ⟨_, rfl⟩
      rw [e0', e1', e2', e3', e4'] at hgo hth hp
      obtain ⟨⟨ls, es⟩, hst⟩ : ∃ s, lastP body = s := ⟨_, rfl⟩
      rw [hst] at hr hgo
      obtain ⟨en, hen⟩ : ∃ en, rEnd ls es = en := ⟨_, rfl⟩
      have hgo : goodP k body ↔ k = 2 ∧ en = 0 ∧ okP x0 x1 x2 x3 x4 := by rw [← hen]; exact hgo
      have HEN := Aside0.mk hen
      have HTH := Aside0.mk hth
      have HP1 := Aside0.mk (show Bk W w.heap.size #[.int .i64 x0, .int .i64 x1, .int .i64 x2, .int .i64 x3, .int .i64 x4] 42 from hp)
      have HR1 := Aside0.mk (show Rb W 60 gr ls es from hr)
      have HB1 := Aside0.mk hB
      have HKD := Aside0.mk hK
      have HDL := Aside0.mk (show w.heap.size ≤ D from Nat.le_trans HB.out.size hD)
      have HDN := Aside0.mk (show D ≠ w.heap.size by have h1 := HGR.out; have h2 := HRL.out; have h3 := HQL.out; have h4 := HNK.out.size; omega)
      have hqc : W.cell? ⟨w_R.heap.size, 0, none⟩ = some (.pointer (some ⟨gr, 0, none⟩)) := hq.cell 0
      have hc0 : World.cell? _ ⟨w.heap.size, 0, none⟩ = some (Value.int .i64 x0) := HP1.out.cell 0; have hf0 := HP1.out.frozen 0; have hc1 : World.cell? _ ⟨w.heap.size, 1, none⟩ = some (Value.int .i64 x1) := HP1.out.cell 1; have hf1 := HP1.out.frozen 1; have hc2 : World.cell? _ ⟨w.heap.size, 2, none⟩ = some (Value.int .i64 x2) := HP1.out.cell 2; have hf2 := HP1.out.frozen 2; have hc3 : World.cell? _ ⟨w.heap.size, 3, none⟩ = some (Value.int .i64 x3) := HP1.out.cell 3; have hf3 := HP1.out.frozen 3; have hc4 : World.cell? _ ⟨w.heap.size, 4, none⟩ = some (Value.int .i64 x4) := HP1.out.cell 4; have hf4 := HP1.out.frozen 4;
      clear hp hq hr hB hK hD hrun hst hen hth e0' e1' e2' e3' e4' HB HZ HQ HN HRR
      by_cases hk1 : k = 2
      · subst hk1
        by_cases he0 : en = 0
        · subst he0
          by_cases hok : okP x0 x1 x2 x3 x4
          · have HOK := Aside0.mk (checkP_ok hok)
            obtain ⟨rfl, rfl⟩ := Prod.mk.inj ((parseP_ok HOP.out (hgo.2 ⟨rfl, rfl, hok⟩)).symm.trans HS.out)
            clear hok hgo
            go_wp2_with (first | (go_at_call 50; (with_reducible refine (oend_c gr ls es 0 _ ?s0 HEN.out).mono ?_); (case s0 => exact (by repeat (first | (with_reducible first | exact HR1.out | apply Rb.alloc | apply Rb.drewN | apply Rb.drew)))); rintro e w_q ⟨rfl, rfl⟩; skip) | (go_at_call 35; (with_reducible refine (pcheck_c x0 x1 x2 x3 x4 _).mono ?_); rintro e w_k ⟨rfl, hb⟩; rw [HOK.out]; have n_ := Aside0.mk (Bk.mv (by repeat (first | (with_reducible first | exact HP1.out | apply Bk.alloc | apply Bk.drewN | apply Bk.drew))) hb); clear HP1; have HP1 := n_; clear n_; have n_ := Aside0.mk ((hb.block D (Array.getElem?_eq_some_iff.1 HKD.out).1).trans HKD.out); clear HKD; have HKD := n_; clear n_; have n_ := Aside0.mk (below_step (by repeat (first | (with_reducible first | exact HB1.out | apply below_alloc | apply pw_below_drewN | apply below_drew1) | exact HB1.out)) hb); clear HB1; have HB1 := n_; clear n_ hb; (try clear hc0 hc1 hc2 hc3 hc4 hf0 hf1 hf2 hf3 hf4); have hc0 : World.cell? _ ⟨w.heap.size, 0, none⟩ = some (Value.int .i64 x0) := HP1.out.cell 0; have hf0 := HP1.out.frozen 0; have hc1 : World.cell? _ ⟨w.heap.size, 1, none⟩ = some (Value.int .i64 x1) := HP1.out.cell 1; have hf1 := HP1.out.frozen 1; have hc2 : World.cell? _ ⟨w.heap.size, 2, none⟩ = some (Value.int .i64 x2) := HP1.out.cell 2; have hf2 := HP1.out.frozen 2; have hc3 : World.cell? _ ⟨w.heap.size, 3, none⟩ = some (Value.int .i64 x3) := HP1.out.cell 3; have hf3 := HP1.out.frozen 3; have hc4 : World.cell? _ ⟨w.heap.size, 4, none⟩ = some (Value.int .i64 x4) := HP1.out.cell 4; have hf4 := HP1.out.frozen 4; skip))
            refine ⟨by simp, .inl ⟨_, _, rfl, run_takeDeferred (def5 HKD.out HDN.out _ _ _ _ _), ?_⟩⟩
            exact ⟨_, results_ct rfl _ _ w.heap.size 42 _ (0, 0) _ rfl ((HP1.out.put5 rfl _ _ _ _ _).grown (grownBy_putObj' _ D _) (fun r e => by cases e; exact ⟨_, def5 HKD.out HDN.out _ _ _ _ _, rfl⟩)) Try.underlying42 rfl (by kernel_rfl), by rw [HTH.out]; rfl, (below5 HB1.out (Nat.le_refl _) _ _ _ _ _).grown (grownBy_putObj' _ D _) (Nat.le_trans HB1.out.size (by simp [World.setCell])) (fun k e => by cases e; exact HDL.out)⟩
          · have HOK := Aside0.mk (checkP_no hok)
            obtain ⟨rfl, rfl⟩ := Prod.mk.inj ((parseP_no HOP.out (fun h => hok (hgo.1 h).2.2)).symm.trans HS.out)
            clear hok hgo
            go_wp2_with (first | (go_at_call 50; (with_reducible refine (oend_c gr ls es 0 _ ?s0 HEN.out).mono ?_); (case s0 => exact (by repeat (first | (with_reducible first | exact HR1.out | apply Rb.alloc | apply Rb.drewN | apply Rb.drew)))); rintro e w_q ⟨rfl, rfl⟩; skip) | (go_at_call 35; (with_reducible refine (pcheck_c x0 x1 x2 x3 x4 _).mono ?_); rintro e w_k ⟨rfl, hb⟩; rw [HOK.out]; have n_ := Aside0.mk (Bk.mv (by repeat (first | (with_reducible first | exact HP1.out | apply Bk.alloc | apply Bk.drewN | apply Bk.drew))) hb); clear HP1; have HP1 := n_; clear n_; have n_ := Aside0.mk ((hb.block D (Array.getElem?_eq_some_iff.1 HKD.out).1).trans HKD.out); clear HKD; have HKD := n_; clear n_; have n_ := Aside0.mk (below_step (by repeat (first | (with_reducible first | exact HB1.out | apply below_alloc | apply pw_below_drewN | apply below_drew1) | exact HB1.out)) hb); clear HB1; have HB1 := n_; clear n_ hb; (try clear hc0 hc1 hc2 hc3 hc4 hf0 hf1 hf2 hf3 hf4); have hc0 : World.cell? _ ⟨w.heap.size, 0, none⟩ = some (Value.int .i64 x0) := HP1.out.cell 0; have hf0 := HP1.out.frozen 0; have hc1 : World.cell? _ ⟨w.heap.size, 1, none⟩ = some (Value.int .i64 x1) := HP1.out.cell 1; have hf1 := HP1.out.frozen 1; have hc2 : World.cell? _ ⟨w.heap.size, 2, none⟩ = some (Value.int .i64 x2) := HP1.out.cell 2; have hf2 := HP1.out.frozen 2; have hc3 : World.cell? _ ⟨w.heap.size, 3, none⟩ = some (Value.int .i64 x3) := HP1.out.cell 3; have hf3 := HP1.out.frozen 3; have hc4 : World.cell? _ ⟨w.heap.size, 4, none⟩ = some (Value.int .i64 x4) := HP1.out.cell 4; have hf4 := HP1.out.frozen 4; skip))
            refine ⟨by simp, .inl ⟨_, _, rfl, run_takeDeferred (def5 HKD.out HDN.out _ _ _ _ _), ?_⟩⟩
            exact ⟨_, results_ct rfl _ _ w.heap.size 42 _ (0, 0) _ rfl ((HP1.out.put5 rfl _ _ _ _ _).grown (grownBy_putObj' _ D _) (fun r e => by cases e; exact ⟨_, def5 HKD.out HDN.out _ _ _ _ _, rfl⟩)) Try.underlying42 rfl (by kernel_rfl), rfl, (below5 HB1.out (Nat.le_refl _) _ _ _ _ _).grown (grownBy_putObj' _ D _) (Nat.le_trans HB1.out.size (by simp [World.setCell])) (fun k e => by cases e; exact HDL.out)⟩
        · have z : (en != 0) = true := bne_iff_ne.mpr he0
          obtain ⟨rfl, rfl⟩ := Prod.mk.inj ((parseP_no HOP.out (fun h => he0 (hgo.1 h).2.1)).symm.trans HS.out)
          clear he0 hgo
          go_wp2_with (first | (go_at_call 50; (with_reducible refine (oend_c gr ls es en _ ?s0 HEN.out).mono ?_); (case s0 => exact (by repeat (first | (with_reducible first | exact HR1.out | apply Rb.alloc | apply Rb.drewN | apply Rb.drew)))); rintro e w_q ⟨rfl, rfl⟩; skip))
          refine ⟨by simp, .inl ⟨_, _, rfl, run_takeDeferred (def5 HKD.out HDN.out _ _ _ _ _), ?_⟩⟩
          exact ⟨_, results_ct rfl _ _ w.heap.size 42 _ (0, 0) _ rfl ((HP1.out.put5 rfl _ _ _ _ _).grown (grownBy_putObj' _ D _) (fun r e => by cases e; exact ⟨_, def5 HKD.out HDN.out _ _ _ _ _, rfl⟩)) Try.underlying42 rfl (by kernel_rfl), rfl, (below5 HB1.out (Nat.le_refl _) _ _ _ _ _).grown (grownBy_putObj' _ D _) (Nat.le_trans HB1.out.size (by simp [World.setCell])) (fun k e => by cases e; exact HDL.out)⟩
      · have z : (k != 2) = true := bne_iff_ne.mpr hk1
        obtain ⟨rfl, rfl⟩ := Prod.mk.inj ((parseP_no HOP.out (fun h => hk1 (hgo.1 h).1)).symm.trans HS.out)
        clear hk1 hgo
        go_wp2
        refine ⟨by simp, .inl ⟨_, _, rfl, run_takeDeferred (def5 HKD.out HDN.out _ _ _ _ _), ?_⟩⟩
        exact ⟨_, results_ct rfl _ _ w.heap.size 42 _ (0, 0) _ rfl ((HP1.out.put5 rfl _ _ _ _ _).grown (grownBy_putObj' _ D _) (fun r e => by cases e; exact ⟨_, def5 HKD.out HDN.out _ _ _ _ _, rfl⟩)) Try.underlying42 rfl (by kernel_rfl), rfl, (below5 HB1.out (Nat.le_refl _) _ _ _ _ _).grown (grownBy_putObj' _ D _) (Nat.le_trans HB1.out.size (by simp [World.setCell])) (fun k e => by cases e; exact HDL.out)⟩
  · have y0 : (eo == 0) = false := beq_eq_false_iff_ne.mpr he
    have y1 : (eo != 0) = true := bne_iff_ne.mpr he
    obtain ⟨rfl, rfl⟩ := Prod.mk.inj ((parseP_err HOP.out he).symm.trans HS.out)
    clear he
    go_enter Try.func60, Try.ntmps60
    go_wp2_with (first | (go_at_call 30; (with_reducible refine (oopen_v v0 b k body eo _ ?s0 ?s1 HOP.out).mono ?_); (case s0 => exact H0.out.mv (by repeat (first | (with_reducible first | exact HB.out | apply below_alloc | apply pw_below_drewN | apply below_drew1) | exact HB.out))); (case s1 => exact HBB.out); rintro e w_o ⟨v_o, rfl, ho, hb⟩; have HO := Aside0.mk (ho.lower (below_size (by repeat (first | (with_reducible first | exact HB.out | apply below_alloc | apply pw_below_drewN | apply below_drew1) | exact HB.out)))); have HZ := Aside0.mk (Bk.mv (by repeat (first | (with_reducible first | exact Bk.alloc0 _ _ _ | apply Bk.drewN | apply Bk.drew) | exact Bk.alloc0 _ _ _)) hb); have n_ := Aside0.mk (below_step (by repeat (first | (with_reducible first | exact HB.out | apply below_alloc | apply pw_below_drewN | apply below_drew1) | exact HB.out)) hb); clear HB; have HB := n_; clear ho hb n_; have hc0 : World.cell? _ ⟨w.heap.size, 0, none⟩ = some (Value.int .i64 0) := HZ.out.cell 0; have hf0 := HZ.out.frozen 0; have hc1 : World.cell? _ ⟨w.heap.size, 1, none⟩ = some (Value.int .i64 0) := HZ.out.cell 1; have hf1 := HZ.out.frozen 1; have hc2 : World.cell? _ ⟨w.heap.size, 2, none⟩ = some (Value.int .i64 0) := HZ.out.cell 2; have hf2 := HZ.out.frozen 2; have hc3 : World.cell? _ ⟨w.heap.size, 3, none⟩ = some (Value.int .i64 0) := HZ.out.cell 3; have hf3 := HZ.out.frozen 3; have hc4 : World.cell? _ ⟨w.heap.size, 4, none⟩ = some (Value.int .i64 0) := HZ.out.cell 4; have hf4 := HZ.out.frozen 4; skip))
    refine bodyPost_ret (results_ct rfl _ _ w.heap.size 42 _ (0, 0) _ rfl (HZ.out.put5 rfl _ _ _ _ _) Try.underlying42 rfl (by kernel_rfl)) rfl ?_
    exact ⟨rfl, below5 HB.out (Nat.le_refl _) _ _ _ _ _⟩

end Go.Proofs.Ytkgjmajabgpadaa
