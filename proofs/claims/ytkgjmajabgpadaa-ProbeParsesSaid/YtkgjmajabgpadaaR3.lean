import Derived.Test.YtkgjmajabgpadaaR2
namespace Go.Proofs.Ytkgjmajabgpadaa
set_option linter.unusedVariables false
set_option linter.unusedSimpArgs false
open Go.RowKit Go.Shelf Go.Proofs.YtkgjmajabgpadaaW.PrintWords Go.Proofs.YtkgjmajabgpadaaW.PrintLast Go.Proofs.YtkgjmajabgpadaaW.PrintMore
attribute [local go_sem] Oper.semAt_some
def r33_7.T : Bool × List (List Nat × List Nat) := (true, [([], []), ([], []), ([], []), ([2], [2]), ([3], [3]), ([4], [4]), ([0, 1, 5], [0, 1, 5]), ([6], [6]), ([7], [7]), ([7], [7]), ([8, 6, 0, 1, 2, 3, 4, 5, 6, 7, 8], [8])])
def r33_7.B : List Nat := [0, 0, 0, 4, 12, 28, 63, 127, 255, 255, 511]
theorem r33_7.tab : rtab .any (opsOf Try.f33 7) = r33_7.T := by kernel_rfl
theorem r33_7.bits : waitsOk r33_7.T.2 r33_7.B = true := by kernel_rfl
theorem Bk.grown {w w1 : World} {g : Nat} {cs : Array Value} {t : TypeId} {row : Option Nat} (h : Bk w g cs t) (hg : w.grownBy w1 row) (hr : ∀ r, row = some r → ∃ o : Obj, w.heap[r]? = some o ∧ o.isCells = false) : Bk w1 g cs t := by
  refine (hg.block g h.lt ?_).trans h
  intro e
  obtain ⟨o, ho, hc⟩ := hr g e.symm
  have h : w.heap[g]? = some (.cells cs t (0, 0)) := h
  rw [h] at ho
  injection ho with ho
  subst ho
  cases hc
theorem BV.grown {w w1 : World} {v : Value} {l : List Int} {row : Option Nat} (h : BV w v l) (hg : w.grownBy w1 row) (hr : ∀ r, row = some r → ∃ o : Obj, w.heap[r]? = some o ∧ o.isCells = false) : BV w1 v l := by
  obtain ⟨A, c, rfl, hc, hb⟩ := h
  refine ⟨A, c, rfl, hc, BC.of_reads hb.max fun hp => ?_⟩
  obtain ⟨ad, e1, _⟩ := hb.atN 0 hp
  refine ⟨ad, e1, fun j hj => ?_⟩
  obtain ⟨ad', e2, hcell⟩ := hb.atN j hj
  rw [e1] at e2
  injection e2 with e2
  subst e2
  exact cell_kept hcell hg hr
/-- A block without bytes was written. -/
theorem BV.kpx {w w1 : World} {v : Value} {l : List Int} {g : Nat} {cs : Array Value} {t : TypeId} (h : BV w v l) (hg : Bk w g cs t) (hcs : ∀ (i : Nat) (u : Value), cs[i]? = some u → ∀ x : Int, u ≠ Value.int .u8 x) (hk : Kp w w1 g) : BV w1 v l := by
  obtain ⟨A, c, rfl, hc, hb⟩ := h
  refine ⟨A, c, rfl, hc, BC.of_reads hb.max fun hp => ?_⟩
  obtain ⟨ad, e1, _⟩ := hb.atN 0 hp
  refine ⟨ad, e1, fun j hj => ?_⟩
  obtain ⟨ad', e2, hcell⟩ := hb.atN j hj
  rw [e1] at e2
  injection e2 with e2
  subst e2
  have hlt := World.block_lt_of_cell? w _ hcell
  have hne : (ad.add j).block ≠ g := by
    intro hbk
    have h2 := hcell
    unfold World.cell? at h2
    rw [hbk, show w.heap[g]? = some (.cells cs t (0, 0)) from hg] at h2
    dsimp only at h2
    split at h2
    · cases h2
    · exact hcs _ _ h2 _ rfl
  exact (World.cell?_of_block (w := w) (hk.block _ hlt hne)).trans hcell
theorem one_slice {A : Option Addr} {m c : Nat} : ∀ (i : Nat) (u : Value), (#[Value.slice A m c] : Array Value)[i]? = some u → ∀ x : Int, u ≠ Value.int .u8 x := by
  intro i u h x
  rcases i with _ | i
  · simp at h
    subst h
    simp
  · simp at h
theorem lit_ivR (w : World) (l : List Int) (hl : l.length ≤ 9223372036854775807 := by simp) : IV (w.alloc (.cells (l.map (Value.int .i64)).toArray 3)) (.slice (some ⟨w.heap.size, 0, none⟩) l.length l.length) l := by
  refine IC.iv (Kd.C_of_reads (enc := Value.int .i64) (d := (0 : Int)) ⟨rfl, hl, fun hp => ⟨_, rfl, fun j hj => ?_⟩⟩) (Nat.le_refl _) rfl
  rw [Go.WideShapes.add_plain]
  unfold World.cell? World.alloc
  simp [List.getD_eq_getElem?_getD, hj]
theorem results_cs {P : Program} {fn : Func} {p u : Tmp} {ty : TypeId} {e : TypeId} (h : fn.results = #[.cell p ty, .tmp u]) (tmps : Array Value) (w : World) (g : Nat) (v : Value)
    (hp : tmps.getD p undef = .pointer (some ⟨g, 0, none⟩)) (hc : w.cell? ⟨g, 0, none⟩ = some v) (hu : P.underlying ty = some (.slice e)) :
    (results fn tmps).run P w = .ok (.tuple #[v, tmps.getD u undef]) w := by
  have hp' : tmps[p]?.getD undef = .pointer (some ⟨g, 0, none⟩) := by simpa using hp
  simp [results, h, hp', asAddr, loadVar, run_isAgg_plain hu rfl, hc]
theorem kp_putObj (w : World) (D : Nat) (o : Obj) : Kp w (w.putObj D o) D := ⟨rfl, rfl, rfl, by simp, fun i _ h => World.putObj_heap_other h⟩
theorem fld_cell (a b c d n : Int) (x : Fin 5) : (#[.int .i64 a, .int .i64 b, .int .i64 c, .int .i64 d, .int .i64 n] : Array Value)[x.val]? = some (.int .i64 (fldP a b c d n x.val)) := by
  match x with
  | 0 => rfl
  | 1 => rfl
  | 2 => rfl
  | 3 => rfl
  | 4 => rfl
set_option maxHeartbeats 8000000 in
set_option maxRecDepth 100000 in
theorem pbytes_ok (a b c d n : Int) (w : World) (hok : okP a b c d n) : Calls Try.prog 33 #[.agg #[.int .i64 a, .int .i64 b, .int .i64 c, .int .i64 d, .int .i64 n]] w fun e w' => ∃ v0 : Value, e = .returned (.tuple #[v0, .int .i64 0]) ∧ BR w' w.heap.size v0 (frameOf 2 (bodyP a b c d n)) ∧ Below w.heap.size w w' := by
  have HB := Aside0.mk (Below.refl w.heap.size w)
  have HE := Aside0.mk (checkP_ok hok)
  have HOK := Aside0.mk hok
  obtain ⟨r, hr⟩ : ∃ r, frameOf 2 (bodyP a b c d n) = r := ⟨_, rfl⟩
  rw [hr]
  have HSE := Aside0.mk (show sealS 2 (bodyP a b c d n) = (r, 0) by rw [sealP_ok hok, bytesPr_ok hok, hr])
  clear hok hr
  refine callsIn_wide.1 (callsIn_of_wp_marks (F := Fence.wide) (n := 4) Try.func33 rfl trivial ?_ rfl)
  refine wpIn_wide.2 ?_
  simp only [Try.ntmps33, List.size_toArray, List.length_cons, List.length_nil, Nat.reduceAdd, Nat.reduceSub, Array.replicate_succ, Array.replicate_zero, List.push_toArray, List.append_toArray, List.nil_append, List.cons_append]
  go_wp2_with (first | (go_at_call 35; (with_reducible refine (pcheck_c a b c d n _).mono ?_); rintro e w_k ⟨rfl, hb⟩; rw [HE.out]; have HP := Aside0.mk (Bk.mv (Bk.alloc (Bk.alloc0 w #[.int .i64 a, .int .i64 b, .int .i64 c, .int .i64 d, .int .i64 n] 42) (.cells #[.slice none 0 0] 22)) hb); have HC := Aside0.mk (Bk.mv (show Bk ((w.alloc (.cells #[.int .i64 a, .int .i64 b, .int .i64 c, .int .i64 d, .int .i64 n] 42)).alloc (.cells #[.slice none 0 0] 22)) (w.heap.size + 1) #[.slice none 0 0] 22 by have := Bk.alloc0 (w.alloc (.cells #[.int .i64 a, .int .i64 b, .int .i64 c, .int .i64 d, .int .i64 n] 42)) #[.slice none 0 0] 22; rwa [World.size_alloc] at this) hb); have n_ := Aside0.mk (below_step (by repeat (first | (with_reducible first | exact HB.out | apply below_alloc | apply pw_below_drewN | apply below_drew1) | exact HB.out)) hb); clear HB; have HB := n_; clear n_ hb; skip) | (go_at_call 66; (with_reducible refine (numbers_c (some ⟨w.heap.size, 0, none⟩) _).mono ?_); rintro e w_n ⟨rfl, hw⟩; have HN := Aside0.mk (show Bk w_n w_k.heap.size #[.pointer (some ⟨w.heap.size, 0, none⟩)] 81 from hw ▸ Bk.alloc0 w_k _ _); have hb : Below w_k.heap.size w_k w_n := hw ▸ below_alloc (Below.refl w_k.heap.size w_k) _; have n_ := Aside0.mk (HP.out.mv hb); clear HP; have HP := n_; clear n_; have HK := Aside0.mk (show w.heap.size + 1 < w_k.heap.size from HC.out.lt); have HNK := Aside0.mk hb; have n_ := Aside0.mk (HC.out.mv hb); clear HC; have HC := n_; clear n_; have n_ := Aside0.mk (below_step HB.out hb); clear HB; have HB := n_; clear n_ hb hw; skip))
  refine (wpIn_wide (n := 4)).1 ?_
  refine wpIn_rangeFunc_ownG (F := Fence.wide) rfl (by omega) (gf := 72) (lb := #[.pointer (some ⟨w_k.heap.size, 0, none⟩)]) rfl trivial (enters_of Try.func72 (by kernel_rfl) rfl)
    (numbers_stops 3 w_k.heap.size w.heap.size (by omega) w_n HN.out) (fun h k => h.trans k) (fun W l o o' hl h hc hw => kx_b W l o o' hl h hc hw) (Below.refl _ _) (fun _ => rfl)
    (fun pre W => Bk W w.heap.size #[.int .i64 a, .int .i64 b, .int .i64 c, .int .i64 d, .int .i64 n] 42 ∧ (∃ v, Bk W (w.heap.size + 1) #[v] 22 ∧ BV W v (preP a b c d n (pre.map Fin.val))) ∧ Below w.heap.size w W)
    (fun _ _ _ => False) ?hI (fun _ _ _ _ _ hs _ _ => hs) ?h0 ?a1 ?assign ?body ?done ?stop
  case assign =>
    intro l x W K hK
    simp only [encsP]
    gi_wp2
    exact hK
  case hI =>
    rintro s W W' row ⟨hp, ⟨v, hc, hv⟩, hB⟩ hg hr
    have hr' := fun r e => (hr r e).2
    exact ⟨hp.grown hg hr', ⟨v, hc.grown hg hr', hv.grown hg hr'⟩, hB.grown hg hB.size (fun k e => Nat.le_trans HB.out.size (hr k e).1)⟩
  case h0 => exact ⟨HP.out, ⟨_, HC.out, BV.nil _⟩, HB.out⟩
  case stop =>
    rintro D c pre W _ _ h _
    exact h.elim
  case body =>
    rintro l pre x W ⟨hp, ⟨v, hc, hv⟩, hB⟩ hlt
    obtain ⟨A, cc, rfl, hcc, hbc⟩ := hv
    have HP1 := Aside0.mk hp
    have HC1 := Aside0.mk hc
    have HV := Aside0.mk (show BV W (.slice A (preP a b c d n (pre.map Fin.val)).length cc) (preP a b c d n (pre.map Fin.val)) from ⟨A, cc, rfl, hcc, hbc⟩)
    have HB1 := Aside0.mk hB
    clear HB HP HC HN
    have HB := Aside0.mk (Below.refl W.heap.size W)
    have hrl := preP_len a b c d n (pre.map Fin.val)
    rw [List.length_map] at hrl
    obtain ⟨y, hy⟩ : ∃ y, fldP a b c d n x.val = y := ⟨_, rfl⟩
    have hxc : W.cell? ⟨w.heap.size, x.val, none⟩ = some (.int .i64 y) := (hp.cell _).trans (by rw [fld_cell, hy])
    have hcb : W.cell? ⟨w.heap.size + 1, 0, none⟩ = some (.slice A (preP a b c d n (pre.map Fin.val)).length cc) := hc.cell 0
    obtain ⟨r2, hr2⟩ : ∃ r2, preP a b c d n ((pre ++ [x]).map Fin.val) = r2 := ⟨_, rfl⟩
    have HPUT := Aside0.mk (show putS (preP a b c d n (pre.map Fin.val)) (szP x.val : Nat) [y] = (r2, 0) by rw [← hr2, ← hy, put_step HOK.out _ _ x.isLt]; simp)
    have HR2 := Aside0.mk hr2
    obtain ⟨rr, hrr⟩ : ∃ rr, preP a b c d n (pre.map Fin.val) = rr := ⟨_, rfl⟩
    rw [hrr] at HC1 HV hrl hcb HPUT
    have HL := Aside0.mk (show rr.length ≤ 10 by omega)
    clear hp hc hB hcc hbc hy hrr hrl hlt hr2
    refine wpIn_block ?_
    refine region_in (m := 11) (S := fun w' => w'.cell? ⟨w.heap.size + 1, 0, none⟩ = some (Value.slice A rr.length cc) ∧ w'.cell? ⟨w.heap.size, x.val, none⟩ = some (Value.int .i64 y)) (ds := [10]) (by kernel_rfl) (fun ⟨_, _, h⟩ => h) #[false, false, false, false, false, false, false, false, false, false, false] (by kernel_rfl) rfl rfl ⟨hcb, hxc⟩ (fun hHeld => ?_)
    refine with_tabW r33_7.tab r33_7.bits (fun HT_ HW_ => ?_)
    refine pure_ (i := 1) (N := some 17) (v := ?_) (a' := ?_) #[false, true, false, false, false, false, false, false, false, false, false] rfl rfl (any_of HT_.out (by kernel_rfl)) (fun _ _ _ h => h) (Or.inl ⟨by rfl, ?_⟩) ?_ ?_
    rotate_left
    · intro w'
      go_simp
      with_reducible rfl
    rotate_left
    · simp only [Act.put, List.setIfInBounds_toArray, List.set_cons_zero, List.set_cons_succ, i64_w, i32_w]
      rfl
    refine pure_ (i := 2) (N := some 18) (v := ?_) (a' := ?_) #[false, true, true, false, false, false, false, false, false, false, false] rfl rfl (any_of HT_.out (by kernel_rfl)) (fun _ _ _ h => h) (Or.inl ⟨by rfl, ?_⟩) ?_ ?_
    rotate_left
    · intro w'
      go_simp
      with_reducible rfl
    rotate_left
    · simp only [Act.put, List.setIfInBounds_toArray, List.set_cons_zero, List.set_cons_succ, i64_w, i32_w]
      rfl
    refine pure_ (i := 3) (N := some 19) (v := ?_) (a' := ?_) #[false, true, true, true, false, false, false, false, false, false, false] rfl rfl (any_of HT_.out (by kernel_rfl)) (fun _ _ _ h => h) (Or.inl ⟨by rfl, ?_⟩) ?_ ?_
    rotate_left
    · intro w'
      go_simp
      with_reducible rfl
    rotate_left
    · simp only [Act.put, List.setIfInBounds_toArray, List.set_cons_zero, List.set_cons_succ, i64_w, i32_w]
      rfl
    refine take_ (i := 0) (N := some 16) (v := ?_) (a' := ?_) #[true, true, true, true, false, false, false, false, false, false, false] rfl rfl (take_ofW HT_.out HW_.out (by kernel_rfl)) (fun _ _ _ h => h) (Or.inl ⟨by rfl, ?_⟩) hHeld ?_ ?_
    rotate_left
    · rintro w' ⟨s0, s1⟩
      go_simp
      with_reducible rfl
    rotate_left
    · simp only [Act.put, List.setIfInBounds_toArray, List.set_cons_zero, List.set_cons_succ, i64_w, i32_w]
      rfl
    refine take_ (i := 4) (N := some 20) (v := ?_) (a' := ?_) #[true, true, true, true, true, false, false, false, false, false, false] rfl rfl (take_ofW HT_.out HW_.out (by kernel_rfl)) (fun _ _ _ h => h) (Or.inl ⟨by rfl, ?_⟩) hHeld ?_ ?_
    rotate_left
    · rintro w' ⟨s0, s1⟩
      go_simp
      with_reducible rfl
    rotate_left
    · simp only [Act.put, List.setIfInBounds_toArray, List.set_cons_zero, List.set_cons_succ, i64_w, i32_w]
      rfl
    refine one_ (i := 5) (N := some 21) #[true, true, true, true, true, true, false, false, false, false, false] rfl rfl (one_of HT_.out (by kernel_rfl)) (by decide) (fun K hK => ?_)
    refine value_ (v := ?_) (w1 := ?_) (by rfl) rfl ?_ ?_
    rotate_left 2
    · go_simp
      first | (with_reducible rfl) | (refine ⟨?_, ?_⟩ <;> with_reducible rfl)
    refine hK.out _ _ ⟨((HC1.out.drew.alloc _).cell 0), (((below_alloc (below_drew (Below.refl W.heap.size W)) _).cell (World.block_lt_of_cell? W _ hxc)).trans hxc)⟩ (fun hHeld => ?_)
    clear hK K
    refine norm_ (a' := ?_) ?_ ?_
    rotate_left
    · show Act.put _ (some 21) _ = _
      simp only [Act.put, List.setIfInBounds_toArray, List.set_cons_zero, List.set_cons_succ, i64_w, i32_w]
      rfl
    refine one_ (i := 6) (N := some 22) #[true, true, true, true, true, true, true, false, false, false, false] rfl rfl (one_of HT_.out (by kernel_rfl)) (by decide) (fun K hK => ?_)
    refine goes_ Try.func20 (by kernel_rfl) rfl #[(.slice A rr.length cc), (.int .i64 (szP x.val : Nat)), (.slice (some ⟨_, 0, none⟩) 1 1)] (by rfl) rfl rfl (by (try simp only [List.map_toArray, List.map_cons, List.map_nil]); first | done | rfl) ?_
    with_reducible refine (oput_v _ _ rr (szP x.val : Nat) [y] _ _ _ ?s0 ?s1 ?s2 HPUT.out).mono ?_
    (case s0 => exact (by repeat (first | (with_reducible first | exact HV.out | apply BV.alloc | apply BV.drewN | apply BV.drew))))
    (case s1 => exact lit_ivR _ [y])
    (case s2 => have := HL.out; simp only [List.length_cons, List.length_nil]; omega)
    rintro e w_20 ⟨v_20, rfl, ho, hb⟩
    refine ⟨_, rfl, ?_⟩
    obtain ⟨A2, c2, e2, _, _⟩ := ho.reads
    subst e2
    have HR := Aside0.mk (BR.bv ho)
    have n_ := Aside0.mk (below_step (by repeat (first | (with_reducible first | exact HB.out | apply below_alloc | apply pw_below_drewN | apply below_drew1) | exact HB.out)) hb)
    clear HB
    have HB := n_
    clear n_ hb ho
    have hcb2 := (HC1.out.mv HB.out).cell 0
    have hfb2 := (HC1.out.mv HB.out).frozen 0
    refine hK.out _ _ ⟨(HC1.out.mv HB.out).cell 0, (HB.out.cell (World.block_lt_of_cell? W _ hxc)).trans hxc⟩ (fun hHeld => ?_)
    clear hK K
    refine norm_ (a' := ?_) ?_ ?_
    rotate_left
    · show Act.put _ (some 22) _ = _
      simp only [Act.put, List.setIfInBounds_toArray, List.set_cons_zero, List.set_cons_succ, i64_w, i32_w]
      rfl
    refine pure_ (i := 7) (N := some 15) (v := ?_) (a' := ?_) #[true, true, true, true, true, true, true, true, false, false, false] rfl rfl (any_of HT_.out (by kernel_rfl)) (fun _ _ _ h => h) (Or.inl ⟨by rfl, ?_⟩) ?_ ?_
    rotate_left
    · intro w'
      go_simp
      with_reducible rfl
    rotate_left
    · simp only [Act.put, List.setIfInBounds_toArray, List.set_cons_zero, List.set_cons_succ, i64_w, i32_w]
      rfl
    refine pure_ (i := 8) (N := some 23) (v := ?_) (a' := ?_) #[true, true, true, true, true, true, true, true, true, false, false] rfl rfl (any_of HT_.out (by kernel_rfl)) (fun _ _ _ h => h) (Or.inl ⟨by rfl, ?_⟩) ?_ ?_
    rotate_left
    · intro w'
      go_simp
      with_reducible rfl
    rotate_left
    · simp only [Act.put, List.setIfInBounds_toArray, List.set_cons_zero, List.set_cons_succ, i64_w, i32_w]
      rfl
    refine pure_ (i := 9) (N := some 24) (v := ?_) (a' := ?_) #[true, true, true, true, true, true, true, true, true, true, false] rfl rfl (any_of HT_.out (by kernel_rfl)) (fun _ _ _ h => h) (Or.inl ⟨by rfl, ?_⟩) ?_ ?_
    rotate_left
    · intro w'
      go_simp
      with_reducible rfl
    rotate_left
    · simp only [Act.put, List.setIfInBounds_toArray, List.set_cons_zero, List.set_cons_succ, i64_w, i32_w]
      rfl
    refine last_ (i := 10) (N := none) #[true, true, true, true, true, true, true, true, true, true, true] rfl rfl (one_of HT_.out (by kernel_rfl)) (by decide) (fun K hK => ?_)
    refine skip_ (w1 := ?_) (by rfl) rfl ?_ ?_
    rotate_left
    · go_simp
      with_reducible rfl
    refine hK.out _ _ ?_
    clear hK K
    refine done_ (done_of HT_.out (by kernel_rfl)) ?_
    refine ⟨((Ky.of_below HB.out).setCell HK.out 0 _).from ?_, ((Ky.of_below HB.out).setCell HK.out 0 _).kx, (HP1.out.mv HB.out).other 0 _ (by omega), ⟨_, (HC1.out.mv HB.out).put 0 _, by rw [HR2.out]; exact BV.kpx HR.out (HC1.out.mv HB.out) one_slice ((Kp.refl _ _).set_ 0 _)⟩, (below_step HB1.out HB.out).setCell (p := ⟨w.heap.size + 1, 0, none⟩) (Nat.le_succ _) _⟩
    exact HNK.out.size
  case done =>
    rintro D xs W hD rfl ⟨hp, ⟨v, hc, hv⟩, hB⟩ hK
    have HV := Aside0.mk (show BV W v (bodyP a b c d n) from hv)
    have hcb : W.cell? ⟨w.heap.size + 1, 0, none⟩ = some v := hc.cell 0
    have HC1 := Aside0.mk hc
    have HB1 := Aside0.mk hB
    have HKD := Aside0.mk hK
    have HD := Aside0.mk hD
    clear HB HP HC HN hp hc hv hB hK hD
    have HB := Aside0.mk (Below.refl W.heap.size W)
    go_wp2_with (first | (go_at_call 24; (with_reducible refine (oseal_v 2 v (bodyP a b c d n) r 0 _ ?s0 ?s1 ?s2 HSE.out).mono ?_); (case s0 => exact (by repeat (first | (with_reducible first | exact HV.out | apply BV.alloc | apply BV.drewN | apply BV.drew)))); (case s1 => exact bodyP_bytes a b c d n); (case s2 => rw [bodyP_len]; omega); rintro e w_s ⟨v_s, rfl, ho, hb⟩; obtain ⟨A_s, c_s, e_s, _, _⟩ := ho.reads; subst e_s; have HR := Aside0.mk ho; have n_ := Aside0.mk (below_step (by repeat (first | (with_reducible first | exact HB.out | apply below_alloc | apply pw_below_drewN | apply below_drew1) | exact HB.out)) hb); clear HB; have HB := n_; clear n_ hb ho; have hcb2 := (HC1.out.mv HB.out).cell 0; have hfb2 := (HC1.out.mv HB.out).frozen 0; skip))
    have hDl : D < W.heap.size := (Array.getElem?_eq_some_iff.1 HKD.out).1
    have hD1 := HD.out
    have hN1 := HNK.out.size
    have hk1 := HK.out
    have hL1 := HC1.out.lt
    have hs1 := HB1.out.size
    have hs2 := HB.out.size
    have hne : D ≠ w.heap.size + 1 := by omega
    have h2 : (w_s.setCell ⟨w.heap.size + 1, 0, none⟩ (.slice A_s r.length c_s)).heap[D]? = some (.deferred (some [])) := (Below.heap_setCell _ _ _ _ hne).trans ((HB.out.block D hDl).trans HKD.out)
    refine ⟨by simp, .inl ⟨_, _, rfl, run_takeDeferred h2, ?_⟩⟩
    refine ⟨_, results_cs rfl _ _ (w.heap.size + 1) (.slice A_s r.length c_s) rfl ?_ Try.underlying22, _, rfl, ?_, ?_⟩
    · exact (((HC1.out.mv HB.out).put 0 _).grown (grownBy_putObj' _ D _) (fun r e => by cases e; exact ⟨_, h2, rfl⟩)).cell 0
    · exact ((HR.out.far 0 _ (fun k hk => by have := HR.out.block_ge k hk; omega)).kp (kp_putObj _ D _) (fun k hk => by have := HR.out.block_ge k hk; omega)).lower hs1
    · exact (((below_step HB1.out HB.out).setCell (p := ⟨w.heap.size + 1, 0, none⟩) (Nat.le_succ _) _)).grown (grownBy_putObj' _ D _) (Nat.le_trans (Nat.le_trans hs1 hs2) (by simp [World.setCell])) (fun k e => by cases e; omega)
set_option maxHeartbeats 8000000 in
set_option maxRecDepth 100000 in
theorem pbytes_no (a b c d n : Int) (w : World) (hok : ¬ okP a b c d n) : Calls Try.prog 33 #[.agg #[.int .i64 a, .int .i64 b, .int .i64 c, .int .i64 d, .int .i64 n]] w fun e w' => ∃ v0 : Value, e = .returned (.tuple #[v0, .int .i64 2]) ∧ BR w' w.heap.size v0 [] ∧ Below w.heap.size w w' := by
  have HB := Aside0.mk (Below.refl w.heap.size w)
  have HE := Aside0.mk (checkP_no hok)
  clear hok
  go_enter Try.func33, Try.ntmps33
  go_wp2_with (first | (go_at_call 35; (with_reducible refine (pcheck_c a b c d n _).mono ?_); rintro e w_k ⟨rfl, hb⟩; rw [HE.out]; have HP := Aside0.mk (Bk.mv (Bk.alloc (Bk.alloc0 w #[.int .i64 a, .int .i64 b, .int .i64 c, .int .i64 d, .int .i64 n] 42) (.cells #[.slice none 0 0] 22)) hb); have HC := Aside0.mk (Bk.mv (show Bk ((w.alloc (.cells #[.int .i64 a, .int .i64 b, .int .i64 c, .int .i64 d, .int .i64 n] 42)).alloc (.cells #[.slice none 0 0] 22)) (w.heap.size + 1) #[.slice none 0 0] 22 by have := Bk.alloc0 (w.alloc (.cells #[.int .i64 a, .int .i64 b, .int .i64 c, .int .i64 d, .int .i64 n] 42)) #[.slice none 0 0] 22; rwa [World.size_alloc] at this) hb); have n_ := Aside0.mk (below_step (by repeat (first | (with_reducible first | exact HB.out | apply below_alloc | apply pw_below_drewN | apply below_drew1) | exact HB.out)) hb); clear HB; have HB := n_; clear n_ hb; have hcb := HC.out.cell 0; have hfb := HC.out.frozen 0; skip))
  refine bodyPost_ret (results_cs rfl _ _ (w.heap.size + 1) (.slice none 0 0) rfl ((HC.out.put 0 _).cell 0) Try.underlying22) rfl ?_
  exact ⟨_, rfl, BR.nil _ _, HB.out.setCell (p := ⟨w.heap.size + 1, 0, none⟩) (Nat.le_succ _) _⟩
theorem pbytes_c (a b c d n : Int) (w : World) (r : List Int) (e0 : Int) (hs : bytesPr a b c d n = (r, e0)) : Calls Try.prog 33 #[.agg #[.int .i64 a, .int .i64 b, .int .i64 c, .int .i64 d, .int .i64 n]] w fun e w' => ∃ v0 : Value, e = .returned (.tuple #[v0, .int .i64 e0]) ∧ BR w' w.heap.size v0 r ∧ Below w.heap.size w w' := by
  by_cases hok : okP a b c d n
  · obtain ⟨rfl, rfl⟩ := Prod.mk.inj (hs.symm.trans (bytesPr_ok hok))
    exact pbytes_ok a b c d n w hok
  · obtain ⟨rfl, rfl⟩ := Prod.mk.inj (hs.symm.trans (bytesPr_no hok))
    exact pbytes_no a b c d n w hok
set_option maxHeartbeats 8000000 in
set_option maxRecDepth 100000 in
theorem pbytesr_c (a b c d n : Int) (w : World) (r : List Int) (e0 : Int) (hs : bytesPr a b c d n = (r, e0)) : Calls Try.prog 34 #[.agg #[.int .i64 a, .int .i64 b, .int .i64 c, .int .i64 d, .int .i64 n]] w fun e w' => ∃ v0 : Value, e = .returned (.tuple #[v0, .int .i64 e0]) ∧ BR w' w.heap.size v0 r ∧ Below w.heap.size w w' := by
  have HB := Aside0.mk (Below.refl w.heap.size w)
  go_enter Try.func34, Try.ntmps34
  by_cases hok : okP a b c d n
  · have HE := Aside0.mk (checkP_ok hok)
    have HP1 := Aside0.mk (putP_four hok)
    have HP2 := Aside0.mk (putP_last hok)
    have HSE := Aside0.mk (show sealS 2 (bodyP a b c d n) = (r, e0) from (sealP_ok hok).trans hs)
    clear hok hs
    go_wp2_with (first | (go_at_call 36; (with_reducible refine (pcheckr_c a b c d n _).mono ?_); rintro e w_f ⟨rfl, hb⟩; have HD := Aside0.mk (Bk.mv (by repeat (first | (with_reducible first | exact Bk.alloc0 _ _ _ | apply Bk.drewN | apply Bk.drew) | exact Bk.alloc0 _ _ _)) hb); have n_ := Aside0.mk (below_step (by repeat (first | (with_reducible first | exact HB.out | apply below_alloc | apply pw_below_drewN | apply below_drew1) | exact HB.out)) hb); clear HB; have HB := n_; clear n_; clear hb; rw [HE.out];  (try clear hc0 hc1 hc2 hc3 hc4); have hc0 : World.cell? _ ⟨w.heap.size, 0, none⟩ = some (Value.int .i64 a) := HD.out.cell 0; have hc1 : World.cell? _ ⟨w.heap.size, 1, none⟩ = some (Value.int .i64 b) := HD.out.cell 1; have hc2 : World.cell? _ ⟨w.heap.size, 2, none⟩ = some (Value.int .i64 c) := HD.out.cell 2; have hc3 : World.cell? _ ⟨w.heap.size, 3, none⟩ = some (Value.int .i64 d) := HD.out.cell 3; have hc4 : World.cell? _ ⟨w.heap.size, 4, none⟩ = some (Value.int .i64 n) := HD.out.cell 4; skip) | ((with_reducible refine gate_dst (N := 21) rfl ?_); refine lit_i64 (w0 := w) (N := 21) w.heap.size ?hg ?hd [a, b, c, d] ?hr ?hB ?hS (by simp) ?_; (case hd => rfl); (case hg => rfl); (case hr => first | (go_simp; done) | (go_simp; rfl)); (case hB => exact (by repeat (first | (with_reducible first | exact HB.out | apply below_alloc | apply pw_below_drewN | apply below_drew1) | exact HB.out))); (case hS => exact below_size (by repeat (first | (with_reducible first | exact HB.out | apply below_alloc | apply pw_below_drewN | apply below_drew1) | exact HB.out))); intro v_a w_a ho hb hg hat; have n_ := Aside0.mk (Bk.mv (by repeat (first | (with_reducible first | exact HD.out | apply Bk.alloc | apply Bk.drewN | apply Bk.drew))) (below_of_grown_none hg)); clear HD; have HD := n_; clear n_; have n_ := Aside0.mk hb; clear HB; have HB := n_; clear n_; have HO_a := Aside0.mk ho; clear ho hb hg hat; obtain ⟨A_a, c_a, e_a, _, _⟩ := IR.reads HO_a.out; subst e_a; (try clear hc0 hc1 hc2 hc3 hc4); have hc0 : World.cell? _ ⟨w.heap.size, 0, none⟩ = some (Value.int .i64 a) := HD.out.cell 0; have hc1 : World.cell? _ ⟨w.heap.size, 1, none⟩ = some (Value.int .i64 b) := HD.out.cell 1; have hc2 : World.cell? _ ⟨w.heap.size, 2, none⟩ = some (Value.int .i64 c) := HD.out.cell 2; have hc3 : World.cell? _ ⟨w.heap.size, 3, none⟩ = some (Value.int .i64 d) := HD.out.cell 3; have hc4 : World.cell? _ ⟨w.heap.size, 4, none⟩ = some (Value.int .i64 n) := HD.out.cell 4; skip) | (go_at_call 21; (with_reducible refine (rput_v _ _ [] 1 [a, b, c, d] (preP a b c d n [0, 1, 2, 3]) 0 _ ?s0 ?s1 ?s2 HP1.out).mono ?_); (case s0 => exact BV.nil _); (case s1 => exact HO_a.out.iv); (case s2 => simp); rintro e w_p ⟨v_p, rfl, ho, hb⟩; have HO_p := Aside0.mk (ho.lower (below_size (by repeat (first | (with_reducible first | exact HB.out | apply below_alloc | apply pw_below_drewN | apply below_drew1) | exact HB.out)))); clear ho; have n_ := Aside0.mk (Bk.mv (by repeat (first | (with_reducible first | exact HD.out | apply Bk.alloc | apply Bk.drewN | apply Bk.drew))) hb); clear HD; have HD := n_; clear n_; have n_ := Aside0.mk (IR.mv (by repeat (first | (with_reducible first | exact HO_a.out | apply IR.alloc | apply IR.drewN | apply IR.drew))) hb); clear HO_a; have HO_a := n_; clear n_; have n_ := Aside0.mk (below_step (by repeat (first | (with_reducible first | exact HB.out | apply below_alloc | apply pw_below_drewN | apply below_drew1) | exact HB.out)) hb); clear HB; have HB := n_; clear n_; clear hb;  (try clear hc0 hc1 hc2 hc3 hc4); have hc0 : World.cell? _ ⟨w.heap.size, 0, none⟩ = some (Value.int .i64 a) := HD.out.cell 0; have hc1 : World.cell? _ ⟨w.heap.size, 1, none⟩ = some (Value.int .i64 b) := HD.out.cell 1; have hc2 : World.cell? _ ⟨w.heap.size, 2, none⟩ = some (Value.int .i64 c) := HD.out.cell 2; have hc3 : World.cell? _ ⟨w.heap.size, 3, none⟩ = some (Value.int .i64 d) := HD.out.cell 3; have hc4 : World.cell? _ ⟨w.heap.size, 4, none⟩ = some (Value.int .i64 n) := HD.out.cell 4; skip) | ((with_reducible refine gate_dst (N := 29) rfl ?_); refine lit_i64 (w0 := w) (N := 29) w.heap.size ?hg ?hd [n] ?hr ?hB ?hS (by simp) ?_; (case hd => rfl); (case hg => rfl); (case hr => first | (go_simp; done) | (go_simp; rfl)); (case hB => exact (by repeat (first | (with_reducible first | exact HB.out | apply below_alloc | apply pw_below_drewN | apply below_drew1) | exact HB.out))); (case hS => exact below_size (by repeat (first | (with_reducible first | exact HB.out | apply below_alloc | apply pw_below_drewN | apply below_drew1) | exact HB.out))); intro v_b w_b ho hb hg hat; have n_ := Aside0.mk (Bk.mv (by repeat (first | (with_reducible first | exact HD.out | apply Bk.alloc | apply Bk.drewN | apply Bk.drew))) (below_of_grown_none hg)); clear HD; have HD := n_; clear n_; have n_ := Aside0.mk (BR.mv (by repeat (first | (with_reducible first | exact HO_p.out | apply BR.alloc | apply BR.drewN | apply BR.drew))) (below_of_grown_none hg)); clear HO_p; have HO_p := n_; clear n_; have n_ := Aside0.mk hb; clear HB; have HB := n_; clear n_; have HO_b := Aside0.mk ho; clear ho hb hg hat; obtain ⟨A_b, c_b, e_b, _, _⟩ := IR.reads HO_b.out; subst e_b; (try clear hc0 hc1 hc2 hc3 hc4); have hc0 : World.cell? _ ⟨w.heap.size, 0, none⟩ = some (Value.int .i64 a) := HD.out.cell 0; have hc1 : World.cell? _ ⟨w.heap.size, 1, none⟩ = some (Value.int .i64 b) := HD.out.cell 1; have hc2 : World.cell? _ ⟨w.heap.size, 2, none⟩ = some (Value.int .i64 c) := HD.out.cell 2; have hc3 : World.cell? _ ⟨w.heap.size, 3, none⟩ = some (Value.int .i64 d) := HD.out.cell 3; have hc4 : World.cell? _ ⟨w.heap.size, 4, none⟩ = some (Value.int .i64 n) := HD.out.cell 4; skip) | (go_at_call 21; (with_reducible refine (rput_v _ _ (preP a b c d n [0, 1, 2, 3]) 2 [n] (bodyP a b c d n) 0 _ ?s0 ?s1 ?s2 HP2.out).mono ?_); (case s0 => exact BR.bv (by repeat (first | (with_reducible first | exact HO_p.out | apply BR.alloc | apply BR.drewN | apply BR.drew)))); (case s1 => exact HO_b.out.iv); (case s2 => have := preP_len a b c d n [0, 1, 2, 3]; simp only [List.length_cons, List.length_nil] at this ⊢; omega); rintro e w_q ⟨v_q, rfl, ho, hb⟩; have HO_q := Aside0.mk (ho.lower (below_size (by repeat (first | (with_reducible first | exact HB.out | apply below_alloc | apply pw_below_drewN | apply below_drew1) | exact HB.out)))); clear ho; have n_ := Aside0.mk (Bk.mv (by repeat (first | (with_reducible first | exact HD.out | apply Bk.alloc | apply Bk.drewN | apply Bk.drew))) hb); clear HD; have HD := n_; clear n_; have n_ := Aside0.mk (BR.mv (by repeat (first | (with_reducible first | exact HO_p.out | apply BR.alloc | apply BR.drewN | apply BR.drew))) hb); clear HO_p; have HO_p := n_; clear n_; have n_ := Aside0.mk (IR.mv (by repeat (first | (with_reducible first | exact HO_b.out | apply IR.alloc | apply IR.drewN | apply IR.drew))) hb); clear HO_b; have HO_b := n_; clear n_; have n_ := Aside0.mk (below_step (by repeat (first | (with_reducible first | exact HB.out | apply below_alloc | apply pw_below_drewN | apply below_drew1) | exact HB.out)) hb); clear HB; have HB := n_; clear n_; clear hb;  (try clear hc0 hc1 hc2 hc3 hc4); have hc0 : World.cell? _ ⟨w.heap.size, 0, none⟩ = some (Value.int .i64 a) := HD.out.cell 0; have hc1 : World.cell? _ ⟨w.heap.size, 1, none⟩ = some (Value.int .i64 b) := HD.out.cell 1; have hc2 : World.cell? _ ⟨w.heap.size, 2, none⟩ = some (Value.int .i64 c) := HD.out.cell 2; have hc3 : World.cell? _ ⟨w.heap.size, 3, none⟩ = some (Value.int .i64 d) := HD.out.cell 3; have hc4 : World.cell? _ ⟨w.heap.size, 4, none⟩ = some (Value.int .i64 n) := HD.out.cell 4; skip) | (go_at_call 25; (with_reducible refine (rseal_v 2 v_q (bodyP a b c d n) r e0 _ ?s0 ?s1 ?s2 HSE.out).mono ?_); (case s0 => exact BR.bv (by repeat (first | (with_reducible first | exact HO_q.out | apply BR.alloc | apply BR.drewN | apply BR.drew)))); (case s1 => exact bodyP_bytes a b c d n); (case s2 => rw [bodyP_len]; omega); rintro e w_s ⟨v_s, rfl, ho, hb⟩; have HO_s := Aside0.mk (ho.lower (below_size (by repeat (first | (with_reducible first | exact HB.out | apply below_alloc | apply pw_below_drewN | apply below_drew1) | exact HB.out)))); have n_ := Aside0.mk (below_step (by repeat (first | (with_reducible first | exact HB.out | apply below_alloc | apply pw_below_drewN | apply below_drew1) | exact HB.out)) hb); clear HB; have HB := n_; clear ho hb))
    go_ret2
    exact ⟨_, rfl, HO_s.out, HB.out⟩
  · have HE := Aside0.mk (checkP_no hok)
    have hs2 : (r, e0) = ([], 2) := hs.symm.trans (bytesPr_no hok)
    obtain ⟨rfl, rfl⟩ := Prod.mk.injEq _ _ _ _ ▸ hs2
    clear hok hs hs2
    go_wp2_with (first | (go_at_call 36; (with_reducible refine (pcheckr_c a b c d n _).mono ?_); rintro e w_f ⟨rfl, hb⟩; have n_ := Aside0.mk (below_step (by repeat (first | (with_reducible first | exact HB.out | apply below_alloc | apply pw_below_drewN | apply below_drew1) | exact HB.out)) hb); clear HB; have HB := n_; clear hb; rw [HE.out]))
    go_ret2
    exact ⟨_, rfl, BR.nil _ _, HB.out⟩

end Go.Proofs.Ytkgjmajabgpadaa
