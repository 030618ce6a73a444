import Derived.Test.YtkgjmajabgpadaaQ0
import Derived.Test.YtkgjmajabgpadaaR1
namespace Go.Proofs.Ytkgjmajabgpadaa
set_option linter.unusedVariables false
set_option linter.unusedSimpArgs false
open Go.RowKit Go.Shelf Go.Proofs.YtkgjmajabgpadaaW.PrintWords Go.Proofs.YtkgjmajabgpadaaW.PrintLast Go.Proofs.YtkgjmajabgpadaaW.PrintMore
attribute [local go_sem] Oper.semAt_some
def r72_0.T : Bool × List (List Nat × List Nat) := (true, [([], []), ([0], [0]), ([1], [1]), ([], []), ([3], [3]), ([4], [4]), ([], []), ([6], [6]), ([7], [7]), ([], []), ([9], [9]), ([10], [10]), ([2, 5, 8, 11], [2, 5, 8, 11]), ([12], [12]), ([], [])])
def r72_0.B : List Nat := [0, 1, 3, 0, 8, 24, 0, 64, 192, 0, 512, 1536, 4095, 8191, 0]
theorem r72_0.tab : rtab .any (opsOf Try.f72 0) = r72_0.T := by kernel_rfl
theorem r72_0.bits : waitsOk r72_0.T.2 r72_0.B = true := by kernel_rfl
/-- What lay in cells from block n₀ on lies as it lay. -/
structure Kx (n₀ : Nat) (A B : World) : Prop where
  size : A.heap.size ≤ B.heap.size
  same : ∀ (i : Nat) (o : Obj), n₀ ≤ i → A.heap[i]? = some o → o.isCells = true → B.heap[i]? = some o
theorem Kx.trans {n₀ : Nat} {A B C : World} (h : Kx n₀ A B) (k : Kx n₀ B C) : Kx n₀ A C := ⟨Nat.le_trans h.size k.size, fun i o hi ho hc => k.same i o hi (h.same i o hi ho hc) hc⟩
theorem Bk.kx {n₀ g : Nat} {cs : Array Value} {t : TypeId} {A B : World} (h : Bk A g cs t) (k : Kx n₀ A B) (hg : n₀ ≤ g) : Bk B g cs t := k.same g _ hg h rfl
theorem kx_b {n₀ : Nat} {w : World} (W : World) (l : Nat) (o o' : Obj) (hl : w.heap.size ≤ l) (h : W.heap[l]? = some o) (hc : o.isCells = false) (_ : o.isWalk = false) : Kx n₀ W (W.putObj l o') := by
  refine ⟨by simp, fun i oi _ hi hci => ?_⟩
  have hne : i ≠ l := by
    rintro rfl
    rw [h] at hi
    injection hi with hi
    subst hi
    rw [hc] at hci
    cases hci
  exact (World.putObj_heap_other hne).trans hi
/-- Blocks below n₀ alone may have turned. -/
structure Ky (n₀ : Nat) (A B : World) : Prop where
  size : A.heap.size ≤ B.heap.size
  same : ∀ (i : Nat), n₀ ≤ i → i < A.heap.size → B.heap[i]? = A.heap[i]?
theorem Ky.kx {n₀ : Nat} {A B : World} (h : Ky n₀ A B) : Kx n₀ A B := ⟨h.size, fun i o hi ho _ => (h.same i hi (Array.getElem?_eq_some_iff.1 ho).1).trans ho⟩
theorem Ky.from {n₀ m : Nat} {A B : World} (h : Ky n₀ A B) (hm : n₀ ≤ m) : KeepsFrom m A B := ⟨h.size, fun i o hi ho _ => (h.same i (Nat.le_trans hm hi) (Array.getElem?_eq_some_iff.1 ho).1).trans ho⟩
theorem Ky.refl (n₀ : Nat) (A : World) : Ky n₀ A A := ⟨Nat.le_refl _, fun _ _ _ => rfl⟩
theorem Ky.trans {n₀ : Nat} {A B C : World} (h : Ky n₀ A B) (k : Ky n₀ B C) : Ky n₀ A C := ⟨Nat.le_trans h.size k.size, fun i hi hl => (k.same i hi (Nat.lt_of_lt_of_le hl h.size)).trans (h.same i hi hl)⟩
theorem Ky.of_below {n₀ : Nat} {A B : World} (h : Below A.heap.size A B) : Ky n₀ A B := ⟨h.size, fun i _ hl => h.block i hl⟩
theorem Ky.of_kp {n₀ g : Nat} {A B : World} (h : Kp A B g) (hg : g < n₀) : Ky n₀ A B := ⟨h.size, fun i hi hl => h.block i hl (by omega)⟩
theorem Ky.setCell {n₀ g : Nat} {A B : World} (h : Ky n₀ A B) (hg : g < n₀) (j : Nat) (u : Value) : Ky n₀ A (B.setCell ⟨g, j, none⟩ u) := h.trans (Ky.of_kp ((Kp.refl B g).set_ j u) hg)
theorem Ky.alloc {n₀ : Nat} {A B : World} (h : Ky n₀ A B) (o : Obj) : Ky n₀ A (B.alloc o) := h.trans (Ky.of_below (below_alloc (Below.refl _ _) o))
theorem Ky.drew {n₀ : Nat} {A B : World} (h : Ky n₀ A B) : Ky n₀ A B.drew := h.trans ⟨Nat.le_refl _, fun _ _ _ => rfl⟩
theorem grown_drew (W : World) : W.grownBy W.drew none := ⟨rfl, rfl, rfl, Nat.le_refl _, fun _ _ _ => rfl⟩
/-- What the iterator hands the loop's body: the x-th number's place, and its size. -/
def encsP (gp : Nat) (x : Fin 5) : Array Value := #[.pointer (some ⟨gp, x.val, none⟩), .int .i64 (szP x.val : Nat)]
theorem numbers_c (p : Option Addr) (w : World) : Calls Try.prog 66 #[.pointer p] w fun e w' => e = .returned (.func (.func 72) #[] #[.pointer (some ⟨w.heap.size, 0, none⟩)]) ∧ w.alloc (.cells #[.pointer p] 81) = w' := by
  have hmf : ∀ (fn : Fn) (first cap : Array Value) (w : World), (Instr.makeFunc fn first cap).run Try.prog w = .ok (.func fn first cap) w := fun _ _ _ _ => rfl
  go_enter Try.func66, Try.ntmps66
  go_wp2
  go_ret
  exact ⟨rfl, rfl⟩
set_option maxHeartbeats 8000000 in
set_option maxRecDepth 100000 in
theorem iter_in (n l Bn gp : Nat) (hn : 1 ≤ n) (J Jx : List (Fin 5) → World → Prop) (W : World)
    (hY : ∀ pre x W1, J pre W1 → pre.length < 5 → YieldAt Fence.wide (n - 1) Try.prog l (encsP gp x) W1 fun e W' => (e = .returned (.bool true) ∧ J (pre ++ [x]) W' ∧ Kx Bn W1 W') ∨ (e = .returned (.bool false) ∧ Jx (pre ++ [x]) W'))
    (hB : Bk W Bn #[.pointer (some ⟨gp, 0, none⟩)] 81) (hJ : AbidesFrom W.heap.size J) (h0 : J [] W) :
    CallsIn Fence.wide n Try.prog 72 #[.func (.yield l) #[] #[], .pointer (some ⟨Bn, 0, none⟩)] W fun e W' => (∃ v, e = .returned v) ∧ ((∃ xs : List (Fin 5), xs = [0, 1, 2, 3, 4] ∧ J xs W') ∨ (∃ pre, True ∧ Jx pre W')) := by
  have HBN := Aside0.mk hB
  have hle : Bn ≤ W.heap.size := Nat.le_of_lt hB.lt
  clear hB
  refine callsIn_of_wp Try.func72 rfl trivial ?_ rfl
  simp only [Try.ntmps72, List.size_toArray, List.length_cons, List.length_nil, Nat.reduceAdd, Nat.reduceSub, Array.replicate_succ, Array.replicate_zero, List.push_toArray, List.append_toArray, List.nil_append, List.cons_append]
  refine wpIn_seq (wpIn_seq ?_)
  refine wpIn_wide.2 ?_
  refine start_ (n := 15) (S := fun w' => w'.cell? ⟨Bn, 0, none⟩ = some (Value.pointer (some ⟨gp, 0, none⟩))) (ds := []) #[false, false, false, false, false, false, false, false, false, false, false, false, false, false, false] (by kernel_rfl) rfl rfl (HBN.out.drew.cell 0) (fun hHeld => ?_)
  refine with_tabW r72_0.tab r72_0.bits (fun HT_ HW_ => ?_)
  refine pure_ (i := 14) (N := some 19) (v := ?_) (a' := ?_) #[false, false, false, false, false, false, false, false, false, false, false, false, false, false, true] rfl rfl (any_of HT_.out (by kernel_rfl)) (fun _ _ _ h => h) (Or.inl ⟨by rfl, ?_⟩) ?_ ?_
  rotate_left
  · intro w'
    go_simp
    with_reducible rfl
  rotate_left
  · simp only [Act.put, List.setIfInBounds_toArray, List.set_cons_zero, List.set_cons_succ, i64_w, i32_w]
    rfl
  refine take_ (i := 0) (N := some 5) (v := ?_) (a' := ?_) #[true, false, false, false, false, false, false, false, false, false, false, false, false, false, true] rfl rfl (take_ofW HT_.out HW_.out (by kernel_rfl)) (fun _ _ _ h => h) (Or.inl ⟨by rfl, ?_⟩) hHeld ?_ ?_
  rotate_left
  · rintro w' s0
    go_simp
    with_reducible rfl
  rotate_left
  · simp only [Act.put, List.setIfInBounds_toArray, List.set_cons_zero, List.set_cons_succ, i64_w, i32_w]
    rfl
  refine pure_ (i := 1) (N := some 6) (v := ?_) (a' := ?_) #[true, true, false, false, false, false, false, false, false, false, false, false, false, false, true] rfl rfl (any_of HT_.out (by kernel_rfl)) (fun _ _ _ h => h) (Or.inl ⟨by rfl, ?_⟩) ?_ ?_
  rotate_left
  · intro w'
    go_simp
    with_reducible rfl
  rotate_left
  · simp only [Act.put, List.setIfInBounds_toArray, List.set_cons_zero, List.set_cons_succ, i64_w, i32_w]
    rfl
  refine pure_ (i := 2) (N := some 7) (v := ?_) (a' := ?_) #[true, true, true, false, false, false, false, false, false, false, false, false, false, false, true] rfl rfl (any_of HT_.out (by kernel_rfl)) (fun _ _ _ h => h) (Or.inl ⟨by rfl, ?_⟩) ?_ ?_
  rotate_left
  · intro w'
    go_simp
    with_reducible rfl
  rotate_left
  · simp only [Act.put, List.setIfInBounds_toArray, List.set_cons_zero, List.set_cons_succ, i64_w, i32_w]
    rfl
  refine take_ (i := 3) (N := some 8) (v := ?_) (a' := ?_) #[true, true, true, true, false, false, false, false, false, false, false, false, false, false, true] rfl rfl (take_ofW HT_.out HW_.out (by kernel_rfl)) (fun _ _ _ h => h) (Or.inl ⟨by rfl, ?_⟩) hHeld ?_ ?_
  rotate_left
  · rintro w' s0
    go_simp
    with_reducible rfl
  rotate_left
  · simp only [Act.put, List.setIfInBounds_toArray, List.set_cons_zero, List.set_cons_succ, i64_w, i32_w]
    rfl
  refine pure_ (i := 4) (N := some 9) (v := ?_) (a' := ?_) #[true, true, true, true, true, false, false, false, false, false, false, false, false, false, true] rfl rfl (any_of HT_.out (by kernel_rfl)) (fun _ _ _ h => h) (Or.inl ⟨by rfl, ?_⟩) ?_ ?_
  rotate_left
  · intro w'
    go_simp
    with_reducible rfl
  rotate_left
  · simp only [Act.put, List.setIfInBounds_toArray, List.set_cons_zero, List.set_cons_succ, i64_w, i32_w]
    rfl
  refine pure_ (i := 5) (N := some 10) (v := ?_) (a' := ?_) #[true, true, true, true, true, true, false, false, false, false, false, false, false, false, true] rfl rfl (any_of HT_.out (by kernel_rfl)) (fun _ _ _ h => h) (Or.inl ⟨by rfl, ?_⟩) ?_ ?_
  rotate_left
  · intro w'
    go_simp
    with_reducible rfl
  rotate_left
  · simp only [Act.put, List.setIfInBounds_toArray, List.set_cons_zero, List.set_cons_succ, i64_w, i32_w]
    rfl
  refine take_ (i := 6) (N := some 11) (v := ?_) (a' := ?_) #[true, true, true, true, true, true, true, false, false, false, false, false, false, false, true] rfl rfl (take_ofW HT_.out HW_.out (by kernel_rfl)) (fun _ _ _ h => h) (Or.inl ⟨by rfl, ?_⟩) hHeld ?_ ?_
  rotate_left
  · rintro w' s0
    go_simp
    with_reducible rfl
  rotate_left
  · simp only [Act.put, List.setIfInBounds_toArray, List.set_cons_zero, List.set_cons_succ, i64_w, i32_w]
    rfl
  refine pure_ (i := 7) (N := some 12) (v := ?_) (a' := ?_) #[true, true, true, true, true, true, true, true, false, false, false, false, false, false, true] rfl rfl (any_of HT_.out (by kernel_rfl)) (fun _ _ _ h => h) (Or.inl ⟨by rfl, ?_⟩) ?_ ?_
  rotate_left
  · intro w'
    go_simp
    with_reducible rfl
  rotate_left
  · simp only [Act.put, List.setIfInBounds_toArray, List.set_cons_zero, List.set_cons_succ, i64_w, i32_w]
    rfl
  refine pure_ (i := 8) (N := some 13) (v := ?_) (a' := ?_) #[true, true, true, true, true, true, true, true, true, false, false, false, false, false, true] rfl rfl (any_of HT_.out (by kernel_rfl)) (fun _ _ _ h => h) (Or.inl ⟨by rfl, ?_⟩) ?_ ?_
  rotate_left
  · intro w'
    go_simp
    with_reducible rfl
  rotate_left
  · simp only [Act.put, List.setIfInBounds_toArray, List.set_cons_zero, List.set_cons_succ, i64_w, i32_w]
    rfl
  refine take_ (i := 9) (N := some 14) (v := ?_) (a' := ?_) #[true, true, true, true, true, true, true, true, true, true, false, false, false, false, true] rfl rfl (take_ofW HT_.out HW_.out (by kernel_rfl)) (fun _ _ _ h => h) (Or.inl ⟨by rfl, ?_⟩) hHeld ?_ ?_
  rotate_left
  · rintro w' s0
    go_simp
    with_reducible rfl
  rotate_left
  · simp only [Act.put, List.setIfInBounds_toArray, List.set_cons_zero, List.set_cons_succ, i64_w, i32_w]
    rfl
  refine pure_ (i := 10) (N := some 15) (v := ?_) (a' := ?_) #[true, true, true, true, true, true, true, true, true, true, true, false, false, false, true] rfl rfl (any_of HT_.out (by kernel_rfl)) (fun _ _ _ h => h) (Or.inl ⟨by rfl, ?_⟩) ?_ ?_
  rotate_left
  · intro w'
    go_simp
    with_reducible rfl
  rotate_left
  · simp only [Act.put, List.setIfInBounds_toArray, List.set_cons_zero, List.set_cons_succ, i64_w, i32_w]
    rfl
  refine pure_ (i := 11) (N := some 16) (v := ?_) (a' := ?_) #[true, true, true, true, true, true, true, true, true, true, true, true, false, false, true] rfl rfl (any_of HT_.out (by kernel_rfl)) (fun _ _ _ h => h) (Or.inl ⟨by rfl, ?_⟩) ?_ ?_
  rotate_left
  · intro w'
    go_simp
    with_reducible rfl
  rotate_left
  · simp only [Act.put, List.setIfInBounds_toArray, List.set_cons_zero, List.set_cons_succ, i64_w, i32_w]
    rfl
  refine one_ (i := 12) (N := some 17) #[true, true, true, true, true, true, true, true, true, true, true, true, true, false, true] rfl rfl (one_of HT_.out (by kernel_rfl)) (by decide) (fun K hK => ?_)
  refine value_ (v := ?_) (w1 := ?_) (by rfl) rfl ?_ ?_
  rotate_left 2
  · go_simp
    first | (with_reducible rfl) | (refine ⟨?_, ?_⟩ <;> with_reducible rfl)
  refine hK.out _ _ ((HBN.out.drew.alloc _).cell 0) (fun hHeld => ?_)
  clear hK K
  refine norm_ (a' := ?_) ?_ ?_
  rotate_left
  · show Act.put _ (some 17) _ = _
    simp only [Act.put, List.setIfInBounds_toArray, List.set_cons_zero, List.set_cons_succ, i64_w, i32_w]
    rfl
  refine pure_ (i := 13) (N := some 18) (v := ?_) (a' := ?_) #[true, true, true, true, true, true, true, true, true, true, true, true, true, true, true] rfl rfl (any_of HT_.out (by kernel_rfl)) (fun _ _ _ h => h) (Or.inl ⟨by rfl, ?_⟩) ?_ ?_
  rotate_left
  · intro w'
    go_simp
    with_reducible rfl
  rotate_left
  · simp only [Act.put, List.setIfInBounds_toArray, List.set_cons_zero, List.set_cons_succ, i64_w, i32_w]
    rfl
  refine done_ (done_of HT_.out (by kernel_rfl)) ?_
  have hJ0 : J [] (W.alloc (.cells #[Value.pointer (some ⟨gp, 0, none⟩), Value.pointer (some ⟨gp, 1, none⟩), Value.pointer (some ⟨gp, 2, none⟩), Value.pointer (some ⟨gp, 3, none⟩)] 82)).drew := hJ _ _ _ none (hJ _ _ _ none h0 (World.grownBy_alloc W _ none) (fun _ e => by cases e)) (grown_drew _) (fun _ e => by cases e)
  have HS0 : Bk (W.alloc (.cells #[Value.pointer (some ⟨gp, 0, none⟩), Value.pointer (some ⟨gp, 1, none⟩), Value.pointer (some ⟨gp, 2, none⟩), Value.pointer (some ⟨gp, 3, none⟩)] 82)).drew W.heap.size #[Value.pointer (some ⟨gp, 0, none⟩), Value.pointer (some ⟨gp, 1, none⟩), Value.pointer (some ⟨gp, 2, none⟩), Value.pointer (some ⟨gp, 3, none⟩)] 82 := (Bk.alloc0 W _ _).drew
  have HN0 := (HBN.out.alloc (.cells #[Value.pointer (some ⟨gp, 0, none⟩), Value.pointer (some ⟨gp, 1, none⟩), Value.pointer (some ⟨gp, 2, none⟩), Value.pointer (some ⟨gp, 3, none⟩)] 82)).drew
  obtain ⟨W0, hW0⟩ : ∃ W0, (W.alloc (.cells #[Value.pointer (some ⟨gp, 0, none⟩), Value.pointer (some ⟨gp, 1, none⟩), Value.pointer (some ⟨gp, 2, none⟩), Value.pointer (some ⟨gp, 3, none⟩)] 82)).drew = W0 := ⟨_, rfl⟩
  rw [hW0] at hJ0 HS0 HN0
  show (Code.block _ _).wpIn _ _ _ _ _ _
  refine wpIn_block (wpIn_loop_rounds 5 ?_)
  first | rw [hW0] | (have hW0' : (W.drew.alloc (.cells #[Value.pointer (some ⟨gp, 0, none⟩), Value.pointer (some ⟨gp, 1, none⟩), Value.pointer (some ⟨gp, 2, none⟩), Value.pointer (some ⟨gp, 3, none⟩)] 82)) = W0 := hW0; rw [hW0'])
  clear hW0 HBN
  obtain ⟨fn0, tmps0, assign0, body0, hy0, hR0⟩ := hY [] 0 W0 hJ0 (by simp)
  have hy0' : (Instr.yield l #[.pointer (some ⟨gp, 0, none⟩), .int .i64 1]).run Try.prog W0 = .ok (.round l fn0 tmps0 assign0 body0) W0 := hy0
  have hs0 : World.cell? W0 ⟨W.heap.size, 0, none⟩ = some (Value.pointer (some ⟨gp, 0, none⟩)) := HS0.cell 0
  rw [roundsIn_succ]
  gi_wp2
  refine hR0.mono ?_
  rintro e W1 (⟨rfl, hJ1, hk1⟩ | ⟨rfl, hJx⟩)
  · have HS1 := HS0.kx hk1 hle
    have HN1 := HN0.kx hk1 (Nat.le_refl _)
    clear hy0 hy0' hR0 hs0 HS0 HN0 hJ0 hk1
    gi_wp2
    obtain ⟨fn1, tmps1, assign1, body1, hy1, hR1⟩ := hY [0] 1 W1 hJ1 (by simp)
    have hy1' : (Instr.yield l #[.pointer (some ⟨gp, 1, none⟩), .int .i64 1]).run Try.prog W1 = .ok (.round l fn1 tmps1 assign1 body1) W1 := hy1
    have hs1 : World.cell? W1 ⟨W.heap.size, 1, none⟩ = some (Value.pointer (some ⟨gp, 1, none⟩)) := HS1.cell 1
    rw [roundsIn_succ]
    gi_wp2
    refine hR1.mono ?_
    rintro e W2 (⟨rfl, hJ2, hk2⟩ | ⟨rfl, hJx⟩)
    · have HS2 := HS1.kx hk2 hle
      have HN2 := HN1.kx hk2 (Nat.le_refl _)
      clear hy1 hy1' hR1 hs1 HS1 HN1 hJ1 hk2
      gi_wp2
      obtain ⟨fn2, tmps2, assign2, body2, hy2, hR2⟩ := hY [0, 1] 2 W2 hJ2 (by simp)
      have hy2' : (Instr.yield l #[.pointer (some ⟨gp, 2, none⟩), .int .i64 1]).run Try.prog W2 = .ok (.round l fn2 tmps2 assign2 body2) W2 := hy2
      have hs2 : World.cell? W2 ⟨W.heap.size, 2, none⟩ = some (Value.pointer (some ⟨gp, 2, none⟩)) := HS2.cell 2
      rw [roundsIn_succ]
      gi_wp2
      refine hR2.mono ?_
      rintro e W3 (⟨rfl, hJ3, hk3⟩ | ⟨rfl, hJx⟩)
      · have HS3 := HS2.kx hk3 hle
        have HN3 := HN2.kx hk3 (Nat.le_refl _)
        clear hy2 hy2' hR2 hs2 HS2 HN2 hJ2 hk3
        gi_wp2
        obtain ⟨fn3, tmps3, assign3, body3, hy3, hR3⟩ := hY [0, 1, 2] 3 W3 hJ3 (by simp)
        have hy3' : (Instr.yield l #[.pointer (some ⟨gp, 3, none⟩), .int .i64 1]).run Try.prog W3 = .ok (.round l fn3 tmps3 assign3 body3) W3 := hy3
        have hs3 : World.cell? W3 ⟨W.heap.size, 3, none⟩ = some (Value.pointer (some ⟨gp, 3, none⟩)) := HS3.cell 3
        rw [roundsIn_succ]
        gi_wp2
        refine hR3.mono ?_
        rintro e W4 (⟨rfl, hJ4, hk4⟩ | ⟨rfl, hJx⟩)
        · have HS4 := HS3.kx hk4 hle
          have HN4 := HN3.kx hk4 (Nat.le_refl _)
          clear hy3 hy3' hR3 hs3 HS3 HN3 hJ3 hk4
          gi_wp2
          obtain ⟨fn4, tmps4, assign4, body4, hy4, hR4⟩ := hY [0, 1, 2, 3] 4 W4 hJ4 (by simp)
          have hy4' : (Instr.yield l #[.pointer (some ⟨gp, 4, none⟩), .int .i64 2]).run Try.prog W4 = .ok (.round l fn4 tmps4 assign4 body4) W4 := hy4
          have hb4 : World.cell? W4 ⟨Bn, 0, none⟩ = some (Value.pointer (some ⟨gp, 0, none⟩)) := HN4.cell 0
          rw [roundsIn_succ]
          gi_wp2
          refine hR4.mono ?_
          rintro e W5 (⟨rfl, hJ5, hk5⟩ | ⟨rfl, hJx⟩)
          · gi_wp2
            go_end0
            exact ⟨⟨_, rfl⟩, .inl ⟨_, rfl, hJ5⟩⟩
          · gi_wp2
            go_end0
            exact ⟨⟨_, rfl⟩, .inr ⟨_, trivial, hJx⟩⟩
        · gi_wp2
          refine bodyPost_ret (results_none rfl _ _ _) rfl ?_
          exact ⟨⟨_, rfl⟩, .inr ⟨_, trivial, hJx⟩⟩
      · gi_wp2
        refine bodyPost_ret (results_none rfl _ _ _) rfl ?_
        exact ⟨⟨_, rfl⟩, .inr ⟨_, trivial, hJx⟩⟩
    · gi_wp2
      refine bodyPost_ret (results_none rfl _ _ _) rfl ?_
      exact ⟨⟨_, rfl⟩, .inr ⟨_, trivial, hJx⟩⟩
  · gi_wp2
    refine bodyPost_ret (results_none rfl _ _ _) rfl ?_
    exact ⟨⟨_, rfl⟩, .inr ⟨_, trivial, hJx⟩⟩
theorem numbers_stops (n Bn gp : Nat) (hn : 1 ≤ n) (w : World) (hB : Bk w Bn #[.pointer (some ⟨gp, 0, none⟩)] 81) :
    SeqStopsK Fence.wide n Try.prog 72 #[.pointer (some ⟨Bn, 0, none⟩)] (encsP gp) (Kx Bn) (fun xs => xs = [0, 1, 2, 3, 4]) (fun _ => True) 5 w := fun l J Jx W hW hJ _ hY h0 =>
  iter_in n l Bn gp hn J Jx W hY (hB.mv hW) hJ h0

end Go.Proofs.Ytkgjmajabgpadaa
