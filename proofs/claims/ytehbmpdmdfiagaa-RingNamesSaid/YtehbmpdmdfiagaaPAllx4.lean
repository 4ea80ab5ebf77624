-- Written by a program of this session, after the kit's print
import Derived.Test.YtehbmpdmdfiagaaPAllx0
import Derived.Test.YtehbmpdmdfiagaaPAllx1
import Derived.Test.YtehbmpdmdfiagaaPAllx2
import Derived.Test.YtehbmpdmdfiagaaPAllx3
namespace Go.Proofs.Ytehbmpdmdfiagaa.PAll
open Go.RowKit Go.Proofs.YtehbmpdmdfiagaaW.PrintWords Go.Proofs.YtehbmpdmdfiagaaW.PrintLast Go.Proofs.YtehbmpdmdfiagaaW.PrintMore
attribute [local go_sem] max2_int min2_int max_two min_two max_three min_three max_four min_four   -- for this text's walks alone
set_option linter.unusedVariables false
set_option linter.unusedSimpArgs false

/-! ### fringeref10_Root: function 23 -/
def fringeref10_Root.f (k : Nat) (a0 : Int) (a1 : Int) : Option (Int × Int) := (fringeref10_Check.f k a0).bind fun t166 => (if t166 = 0 then (if a1 < 1 then (some (0, 2)) else (if a1 = 0 then (none) else (if (Int.tmod (wrap64 (a0 - 1)) a1) = 0 then ((fringeref10_generator.f k a0).bind fun t168 => ((fringeref10_Power.f k a0 t168 (wrap64 (Int.tdiv (wrap64 (a0 - 1)) a1))).bind fun t169 => (some (t169, 0)))) else (some (0, 6))))) else ((fringeref10_Check.f k a0).bind fun t167 => (some (0, t167))))
theorem fringeref10_Root.mono : ∀ a0 a1 k, LeO (fringeref10_Root.f k a0 a1) (fringeref10_Root.f (k + 1) a0 a1) := by
  intro a0 a1 k
  unfold fringeref10_Root.f
  repeat' first
      | (with_reducible exact fringeref10_Check.mono _ _)
      | (with_reducible exact fringeref10_Power.mono _ _ _ _)
      | (with_reducible exact fringeref10_generator.mono _ _)
      | (with_reducible exact LeO.refl _)
      | (with_reducible exact LeO.none _)
      | (with_reducible refine LeO.ite ?_ ?_)
      | (with_reducible refine LeO.bind ?_ (fun _ => ?_))
      | exact fringeref10_Check.mono _ _
      | exact fringeref10_Power.mono _ _ _ _
      | exact fringeref10_generator.mono _ _
      | exact LeO.none _
      | refine LeO.ite ?_ ?_
      | refine LeO.bind ?_ (fun _ => ?_)
def fringeref10_Root.T7 : Bool × List (List Nat × List Nat) := (true, [([], []), ([], []), ([1], [1]), ([], []), ([3], [3]), ([], []), ([4, 5], [4, 5]), ([0, 2, 6, 2], [0, 2, 6]), ([7, 7, 0, 1, 2, 3, 4, 5, 6, 7], [7]), ([8, 0, 1, 2, 3, 4, 5, 6, 7, 8], [])])
def fringeref10_Root.B7 : List Nat := [0, 0, 2, 0, 8, 0, 56, 127, 255, 511]
theorem fringeref10_Root.tab7 : rtab .any (opsOf Try.f23 7) = fringeref10_Root.T7 := by kernel_rfl
theorem fringeref10_Root.bits7 : waitsOk fringeref10_Root.T7.2 fringeref10_Root.B7 = true := by kernel_rfl
set_option maxHeartbeats 8000000 in
set_option maxRecDepth 100000 in
theorem fringeref10_Root.calls (k : Nat) (a0 : Int) (a1 : Int) (r1 : Int) (r2 : Int) (w : World) (h : fringeref10_Root.f k a0 a1 = some (r1, r2)) :
    Calls Try.prog 23 #[.int .i64 a0, .int .i64 a1] w fun e w' => e = .returned (.tuple #[.int .i64 r1, .int .i64 r2]) ∧ Below w.heap.size w w' := by
  have HB := Aside0.mk (Below.refl w.heap.size w)
  have H : ((fringeref10_Check.f k a0).bind fun t166 => (if t166 = 0 then (if a1 < 1 then (some (0, 2)) else (if a1 = 0 then (none) else (if (Int.tmod (wrap64 (a0 - 1)) a1) = 0 then ((fringeref10_generator.f k a0).bind fun t168 => ((fringeref10_Power.f k a0 t168 (wrap64 (Int.tdiv (wrap64 (a0 - 1)) a1))).bind fun t169 => (some (t169, 0)))) else (some (0, 6))))) else ((fringeref10_Check.f k a0).bind fun t167 => (some (0, t167))))) = some (r1, r2) := h
  clear h
  replace H := Option.bind_eq_some_iff.mp H
  obtain ⟨t166, A30, H⟩ := H
  replace H : (if t166 = 0 then (if a1 < 1 then (some (0, 2)) else (if a1 = 0 then (none) else (if (Int.tmod (wrap64 (a0 - 1)) a1) = 0 then ((fringeref10_generator.f k a0).bind fun t168 => ((fringeref10_Power.f k a0 t168 (wrap64 (Int.tdiv (wrap64 (a0 - 1)) a1))).bind fun t169 => (some (t169, 0)))) else (some (0, 6))))) else ((fringeref10_Check.f k a0).bind fun t167 => (some (0, t167)))) = some (r1, r2) := H
  have A3 := Aside0.mk A30
  clear A30
  by_cases c4 : t166 = 0
  rotate_left
  · rw [if_neg c4] at H
    have c4b0 : (t166 == 0) = false := beq_eq_false_iff_ne.mpr c4
    have c4b1 : (t166 != 0) = true := bne_iff_ne.mpr c4
    replace H := Option.bind_eq_some_iff.mp H
    obtain ⟨t167, A150, H⟩ := H
    replace H : (some (0, t167)) = some (r1, r2) := H
    have A15 := Aside0.mk A150
    clear A150
    simp only [Option.some.injEq, Prod.mk.injEq] at H
    obtain ⟨rfl, rfl⟩ := H
    go_enter Try.func23, Try.ntmps23
    go_wp2_with (first | ((with_reducible refine gate_callee (f := 15) rfl ?_); refine goesL_ (some 7) rfl rfl Try.func15 (by kernel_rfl) rfl #[.int .i64 a0] rfl (by (try simp only [List.map_toArray, List.map_cons, List.map_nil]); first | done | rfl | (simp only [List.length_drop, List.length_take]; rfl)) ?_; (with_reducible refine (fringeref10_Check.calls k a0 t166 _ A3.out).mono ?_); rintro e w16 ⟨rfl, hb⟩; refine ⟨_, rfl, ?_⟩; have n0_ := Aside0.mk (below_step (by repeat (first | (with_reducible first | exact HB.out | apply below_alloc | apply pw_below_drewN | apply below_drew1) | exact HB.out)) hb); clear HB; have HB := n0_; clear n0_; (try clear hb); (try clear hb2); (try clear hk); (try clear hi)) | ((with_reducible refine gate_callee (f := 15) rfl ?_); refine goesL_ (some 10) rfl rfl Try.func15 (by kernel_rfl) rfl #[.int .i64 a0] rfl (by (try simp only [List.map_toArray, List.map_cons, List.map_nil]); first | done | rfl | (simp only [List.length_drop, List.length_take]; rfl)) ?_; (with_reducible refine (fringeref10_Check.calls k a0 t167 _ A15.out).mono ?_); rintro e w17 ⟨rfl, hb⟩; refine ⟨_, rfl, ?_⟩; have n0_ := Aside0.mk (below_step (by repeat (first | (with_reducible first | exact HB.out | apply below_alloc | apply pw_below_drewN | apply below_drew1) | exact HB.out)) hb); clear HB; have HB := n0_; clear n0_; (try clear hb); (try clear hb2); (try clear hk); (try clear hi)))
    go_ret2
    exact ⟨by first | rfl | (simp [errW_none, errW_some] <;> rfl) | (simp [*, errW_none, errW_some] <;> rfl), by repeat (first | (with_reducible first | exact HB.out | apply below_alloc | apply pw_below_drewN | apply below_drew1) | exact HB.out)⟩
  rw [if_pos c4] at H
  have c4b0 : (t166 == 0) = true := beq_iff_eq.mpr c4
  have c4b1 : (t166 != 0) = false := bne_eq_false_iff_eq.mpr c4
  clear c4
  by_cases c5 : a1 < 1
  · rw [if_pos c5] at H
    have c5b0 : decide (a1 < 1) = true := decide_eq_true c5
    clear c5
    simp only [Option.some.injEq, Prod.mk.injEq] at H
    obtain ⟨rfl, rfl⟩ := H
    go_enter Try.func23, Try.ntmps23
    go_wp2_with (first | ((with_reducible refine gate_callee (f := 15) rfl ?_); refine goesL_ (some 7) rfl rfl Try.func15 (by kernel_rfl) rfl #[.int .i64 a0] rfl (by (try simp only [List.map_toArray, List.map_cons, List.map_nil]); first | done | rfl | (simp only [List.length_drop, List.length_take]; rfl)) ?_; (with_reducible refine (fringeref10_Check.calls k a0 t166 _ A3.out).mono ?_); rintro e w6 ⟨rfl, hb⟩; refine ⟨_, rfl, ?_⟩; have n0_ := Aside0.mk (below_step (by repeat (first | (with_reducible first | exact HB.out | apply below_alloc | apply pw_below_drewN | apply below_drew1) | exact HB.out)) hb); clear HB; have HB := n0_; clear n0_; (try clear hb); (try clear hb2); (try clear hk); (try clear hi)))
    go_ret2
    exact ⟨by first | rfl | (simp [errW_none, errW_some] <;> rfl) | (simp [*, errW_none, errW_some] <;> rfl), by repeat (first | (with_reducible first | exact HB.out | apply below_alloc | apply pw_below_drewN | apply below_drew1) | exact HB.out)⟩
  rw [if_neg c5] at H
  have c5b0 : decide (a1 < 1) = false := decide_eq_false c5
  clear c5
  by_cases c7 : a1 = 0
  · rw [if_pos c7] at H
    exact absurd H (by simp)
  rw [if_neg c7] at H
  have c7b0 : (a1 == 0) = false := beq_eq_false_iff_ne.mpr c7
  have c7b1 : (a1 != 0) = true := bne_iff_ne.mpr c7
  by_cases c8 : (Int.tmod (wrap64 (a0 - 1)) a1) = 0
  rotate_left
  · rw [if_neg c8] at H
    have c8b0 : ((Int.tmod (wrap64 (a0 - 1)) a1) == 0) = false := beq_eq_false_iff_ne.mpr c8
    have c8b1 : ((Int.tmod (wrap64 (a0 - 1)) a1) != 0) = true := bne_iff_ne.mpr c8
    simp only [Option.some.injEq, Prod.mk.injEq] at H
    obtain ⟨rfl, rfl⟩ := H
    go_enter Try.func23, Try.ntmps23
    go_wp2_with (first | ((with_reducible refine gate_callee (f := 15) rfl ?_); refine goesL_ (some 7) rfl rfl Try.func15 (by kernel_rfl) rfl #[.int .i64 a0] rfl (by (try simp only [List.map_toArray, List.map_cons, List.map_nil]); first | done | rfl | (simp only [List.length_drop, List.length_take]; rfl)) ?_; (with_reducible refine (fringeref10_Check.calls k a0 t166 _ A3.out).mono ?_); rintro e w14 ⟨rfl, hb⟩; refine ⟨_, rfl, ?_⟩; have n0_ := Aside0.mk (below_step (by repeat (first | (with_reducible first | exact HB.out | apply below_alloc | apply pw_below_drewN | apply below_drew1) | exact HB.out)) hb); clear HB; have HB := n0_; clear n0_; (try clear hb); (try clear hb2); (try clear hk); (try clear hi)))
    go_ret2
    exact ⟨by first | rfl | (simp [errW_none, errW_some] <;> rfl) | (simp [*, errW_none, errW_some] <;> rfl), by repeat (first | (with_reducible first | exact HB.out | apply below_alloc | apply pw_below_drewN | apply below_drew1) | exact HB.out)⟩
  rw [if_pos c8] at H
  have c8b0 : ((Int.tmod (wrap64 (a0 - 1)) a1) == 0) = true := beq_iff_eq.mpr c8
  have c8b1 : ((Int.tmod (wrap64 (a0 - 1)) a1) != 0) = false := bne_eq_false_iff_eq.mpr c8
  clear c8
  replace H := Option.bind_eq_some_iff.mp H
  obtain ⟨t168, A90, H⟩ := H
  replace H : ((fringeref10_Power.f k a0 t168 (wrap64 (Int.tdiv (wrap64 (a0 - 1)) a1))).bind fun t169 => (some (t169, 0))) = some (r1, r2) := H
  have A9 := Aside0.mk A90
  clear A90
  replace H := Option.bind_eq_some_iff.mp H
  obtain ⟨t169, A100, H⟩ := H
  replace H : (some (t169, 0)) = some (r1, r2) := H
  have A10 := Aside0.mk A100
  clear A100
  simp only [Option.some.injEq, Prod.mk.injEq] at H
  obtain ⟨rfl, rfl⟩ := H
  go_enter Try.func23, Try.ntmps23
  try go_wp2_with (first | ((with_reducible refine gate_callee (f := 15) rfl ?_); refine goesL_ (some 7) rfl rfl Try.func15 (by kernel_rfl) rfl #[.int .i64 a0] rfl (by (try simp only [List.map_toArray, List.map_cons, List.map_nil]); first | done | rfl | (simp only [List.length_drop, List.length_take]; rfl)) ?_; (with_reducible refine (fringeref10_Check.calls k a0 t166 _ A3.out).mono ?_); rintro e w11 ⟨rfl, hb⟩; refine ⟨_, rfl, ?_⟩; have n0_ := Aside0.mk (below_step (by repeat (first | (with_reducible first | exact HB.out | apply below_alloc | apply pw_below_drewN | apply below_drew1) | exact HB.out)) hb); clear HB; have HB := n0_; clear n0_; (try clear hb); (try clear hb2); (try clear hk); (try clear hi)))
  have n0_ := Aside0.mk (below_drew1 HB.out)
  clear HB
  have HB := n0_
  clear n0_
  refine start_ (n := 10) (S := fun w' => True) (ds := []) #[false, false, false, false, false, false, false, false, false, false] (by kernel_rfl) rfl rfl trivial (fun hHeld => ?_); refine with_tabW fringeref10_Root.tab7 fringeref10_Root.bits7 (fun HT_ HW_ => ?_)
  generalize w11.drew = w12 at HB hHeld ⊢
  refine pure_ (i := 0) (N := some 18) (v := ?_) (a' := ?_) #[true, false, false, false, false, false, false, false, false, false] rfl rfl (any_of HT_.out (by kernel_rfl)) (fun _ _ _ h => h) (Or.inl ⟨by rfl, ?_⟩) ?_ ?_
  rotate_left
  · intro w'
    go_simp
    with_reducible rfl
  rotate_left
  · simp only [Act.put, List.setIfInBounds_toArray, List.set_cons_zero, List.set_cons_succ, i64_w, i32_w]
    rfl
  refine pure_ (i := 1) (N := some 19) (v := ?_) (a' := ?_) #[true, true, false, false, false, false, false, false, false, false] rfl rfl (any_of HT_.out (by kernel_rfl)) (fun _ _ _ h => h) (Or.inl ⟨by rfl, ?_⟩) ?_ ?_
  rotate_left
  · intro w'
    go_simp
    with_reducible rfl
  rotate_left
  · simp only [Act.put, List.setIfInBounds_toArray, List.set_cons_zero, List.set_cons_succ, i64_w, i32_w]
    rfl
  refine pure_ (i := 3) (N := some 21) (v := ?_) (a' := ?_) #[true, true, false, true, false, false, false, false, false, false] rfl rfl (any_of HT_.out (by kernel_rfl)) (fun _ _ _ h => h) (Or.inl ⟨by rfl, ?_⟩) ?_ ?_
  rotate_left
  · intro w'
    go_simp
    with_reducible rfl
  rotate_left
  · simp only [Act.put, List.setIfInBounds_toArray, List.set_cons_zero, List.set_cons_succ, i64_w, i32_w]
    rfl
  refine pure_ (i := 4) (N := some 22) (v := ?_) (a' := ?_) #[true, true, false, true, true, false, false, false, false, false] rfl rfl (any_of HT_.out (by kernel_rfl)) (fun _ _ _ h => h) (Or.inl ⟨by rfl, ?_⟩) ?_ ?_
  rotate_left
  · intro w'
    go_simp
    with_reducible rfl
  rotate_left
  · simp only [Act.put, List.setIfInBounds_toArray, List.set_cons_zero, List.set_cons_succ, i64_w, i32_w]
    rfl
  refine pure_ (i := 5) (N := some 23) (v := ?_) (a' := ?_) #[true, true, false, true, true, true, false, false, false, false] rfl rfl (any_of HT_.out (by kernel_rfl)) (fun _ _ _ h => h) (Or.inl ⟨by rfl, ?_⟩) ?_ ?_
  rotate_left
  · intro w'
    go_simp
    with_reducible rfl
  rotate_left
  · simp only [Act.put, List.setIfInBounds_toArray, List.set_cons_zero, List.set_cons_succ, i64_w, i32_w]
    rfl
  refine pure_ (i := 6) (N := some 24) (v := ?_) (a' := ?_) #[true, true, false, true, true, true, true, false, false, false] rfl rfl (any_of HT_.out (by kernel_rfl)) (fun _ _ _ h => h) (Or.inl ⟨by rfl, ?_⟩) ?_ ?_
  rotate_left
  · intro w'
    go_simp
    with_reducible rfl
  rotate_left
  · simp only [Act.put, List.setIfInBounds_toArray, List.set_cons_zero, List.set_cons_succ, i64_w, i32_w]
    rfl
  refine one_ (i := 2) (N := some 20) #[true, true, true, true, true, true, true, false, false, false] rfl rfl (one_of HT_.out (by kernel_rfl)) (by decide) (fun K hK => ?_)
  refine goes_ Try.func35 (by kernel_rfl) rfl #[.int .i64 a0] (by rfl) rfl rfl (by (try simp only [List.map_toArray, List.map_cons, List.map_nil]); first | done | rfl | (simp only [List.length_drop, List.length_take]; rfl)) ?_
  with_reducible refine (fringeref10_generator.calls k a0 t168 _ A9.out).mono ?_
  rintro e w13 ⟨rfl, hb⟩
  refine ⟨_, rfl, ?_⟩
  have n0_ := Aside0.mk (below_step (by repeat (first | (with_reducible first | exact HB.out | apply below_alloc | apply pw_below_drewN | apply below_drew1) | exact HB.out)) hb)
  clear HB
  have HB := n0_
  clear n0_
  (try clear hb)
  (try clear hb2)
  (try clear hk)
  (try clear hi)
  refine hK.out _ _ trivial (fun hHeld => ?_)
  clear hK K
  refine norm_ (a' := ?_) ?_ ?_
  rotate_left
  · show Act.put _ (some 20) _ = _
    simp only [Act.put, List.setIfInBounds_toArray, List.set_cons_zero, List.set_cons_succ, i64_w, i32_w]
    rfl
  refine one_ (i := 7) (N := some 25) #[true, true, true, true, true, true, true, true, false, false] rfl rfl (one_of HT_.out (by kernel_rfl)) (by decide) (fun K hK => ?_)
  refine goes_ Try.func27 (by kernel_rfl) rfl #[.int .i64 a0, .int .i64 t168, .int .i64 (wrap64 (Int.tdiv (wrap64 (a0 - 1)) a1))] (by rfl) rfl rfl (by (try simp only [List.map_toArray, List.map_cons, List.map_nil]); first | done | rfl | (simp only [List.length_drop, List.length_take]; rfl)) ?_
  with_reducible refine (fringeref10_Power.calls k a0 t168 (wrap64 (Int.tdiv (wrap64 (a0 - 1)) a1)) t169 _ A10.out).mono ?_
  rintro e w' ⟨rfl, ⟨nd, rfl⟩⟩
  refine ⟨_, rfl, ?_⟩
  refine hK.out _ _ trivial (fun hHeld => ?_)
  clear hK K
  refine norm_ (a' := ?_) ?_ ?_
  rotate_left
  · show Act.put _ (some 25) _ = _
    simp only [Act.put, List.setIfInBounds_toArray, List.set_cons_zero, List.set_cons_succ, i64_w, i32_w]
    rfl
  refine pure_ (i := 8) (N := some 4) (v := ?_) (a' := ?_) #[true, true, true, true, true, true, true, true, true, false] rfl rfl (any_of HT_.out (by kernel_rfl)) (fun _ _ _ h => h) (Or.inl ⟨by rfl, ?_⟩) ?_ ?_
  rotate_left
  · intro w'
    go_simp
    with_reducible rfl
  rotate_left
  · simp only [Act.put, List.setIfInBounds_toArray, List.set_cons_zero, List.set_cons_succ, i64_w, i32_w]
    rfl
  refine pure_ (i := 9) (N := some 5) (v := ?_) (a' := ?_) #[true, true, true, true, true, true, true, true, true, true] rfl rfl (any_of HT_.out (by kernel_rfl)) (fun _ _ _ h => h) (Or.inl ⟨by rfl, ?_⟩) ?_ ?_
  rotate_left
  · intro w'
    go_simp
    with_reducible rfl
  rotate_left
  · simp only [Act.put, List.setIfInBounds_toArray, List.set_cons_zero, List.set_cons_succ, i64_w, i32_w]
    rfl
  refine done_ (done_of HT_.out (by kernel_rfl)) ?_
  try go_wp2
  go_ret2
  exact ⟨by first | rfl | (simp [errW_none, errW_some] <;> rfl) | (simp [*, errW_none, errW_some] <;> rfl), by repeat (first | (with_reducible first | exact HB.out | apply below_alloc | apply pw_below_drewN | apply below_drew1) | exact HB.out)⟩

/-! ### fringeref10_Same: function 24 -/
def fringeref10_Same.l0 : Nat → List Int → List Int → Int → Option (Bool)
  | 0, _, _, _ => none
  | k + 1, x0, x1, x5 => if x5 < (x0.length : Int) then (if 0 ≤ x5 then (if x5 < (x1.length : Int) then (if (rd x0 x5) = (rd x1 x5) then (fringeref10_Same.l0 k x0 x1 (wrap64 (x5 + 1))) else (some false)) else (none)) else (none)) else (some true)
def fringeref10_Same.f (k : Nat) (l0 : List Int) (l1 : List Int) : Option (Bool) := if (l0.length : Int) = (l1.length : Int) then (fringeref10_Same.l0 k l0 l1 0) else (some false)
theorem fringeref10_Same.mono_l : ∀ k, (∀ y0 y1 y2, LeO (fringeref10_Same.l0 k y0 y1 y2) (fringeref10_Same.l0 (k + 1) y0 y1 y2))
  | 0 => fun _ _ _ r h => by simp [fringeref10_Same.l0] at h
  | k + 1 => by
    have ih0 := fringeref10_Same.mono_l k
    · intro y0 y1 y2
      unfold fringeref10_Same.l0
      repeat' first
      | (with_reducible exact ih0 _ _ _)
      | (with_reducible exact LeO.refl _)
      | (with_reducible exact LeO.none _)
      | (with_reducible refine LeO.ite ?_ ?_)
      | (with_reducible refine LeO.bind ?_ (fun _ => ?_))
      | exact ih0 _ _ _
      | exact LeO.none _
      | refine LeO.ite ?_ ?_
      | refine LeO.bind ?_ (fun _ => ?_)
theorem fringeref10_Same.mono : ∀ a0 a1 k, LeO (fringeref10_Same.f k a0 a1) (fringeref10_Same.f (k + 1) a0 a1) := by
  intro a0 a1 k
  have ih0 := fringeref10_Same.mono_l k
  unfold fringeref10_Same.f
  repeat' first
      | (with_reducible exact ih0 _ _ _)
      | (with_reducible exact LeO.refl _)
      | (with_reducible exact LeO.none _)
      | (with_reducible refine LeO.ite ?_ ?_)
      | (with_reducible refine LeO.bind ?_ (fun _ => ?_))
      | exact ih0 _ _ _
      | exact LeO.none _
      | refine LeO.ite ?_ ?_
      | refine LeO.bind ?_ (fun _ => ?_)
set_option maxHeartbeats 8000000 in
set_option maxRecDepth 100000 in
theorem fringeref10_Same.calls (k : Nat) (A0 : Option Addr) (c0 : Nat) (l0 : List Int) (A1 : Option Addr) (c1 : Nat) (l1 : List Int) (r : Bool) (w : World) (hr0 : Kd.C (Kd.int .i64) w A0 l0.length l0) (hc0 : l0.length ≤ c0) (hr1 : Kd.C (Kd.int .i64) w A1 l1.length l1) (hc1 : l1.length ≤ c1) (h : fringeref10_Same.f k l0 l1 = some r) :
    Calls Try.prog 24 #[.slice A0 l0.length c0, .slice A1 l1.length c1] w fun e w' => e = .returned (.bool r) ∧ Drawn0 w w' := by
  have HR0 := Aside0.mk hr0
  have HC0 := Aside0.mk hc0
  clear hr0 hc0
  have HR1 := Aside0.mk hr1
  have HC1 := Aside0.mk hc1
  clear hr1 hc1
  have H : (if (l0.length : Int) = (l1.length : Int) then (fringeref10_Same.l0 k l0 l1 0) else (some false)) = some r := h
  clear h
  by_cases c3 : (l0.length : Int) = (l1.length : Int)
  rotate_left
  · rw [if_neg c3] at H
    have c3b0 : ((l0.length : Int) == (l1.length : Int)) = false := beq_eq_false_iff_ne.mpr c3
    have c3b1 : ((l0.length : Int) != (l1.length : Int)) = true := bne_iff_ne.mpr c3
    have c3b2 : (l0.length == l1.length) = false := by first | simpa using c3 | (simp at c3 ⊢; omega)
    obtain rfl := Option.some.inj H
    go_enter Try.func24, Try.ntmps24
    go_wp2
    repeat (go_quiet (fail); try go_wp2)
    go_ret
    exact ⟨by first | rfl | (simp; done) | (simp [*]; done), by repeat (first | exact Drawn0.refl _ | apply Drawn0.step)⟩
  rw [if_pos c3] at H
  have c3b0 : ((l0.length : Int) == (l1.length : Int)) = true := beq_iff_eq.mpr c3
  have c3b1 : ((l0.length : Int) != (l1.length : Int)) = false := bne_eq_false_iff_eq.mpr c3
  have c3b2 : (l0.length == l1.length) = true := by first | simpa using c3 | (simp at c3 ⊢; omega)
  clear c3
  have H' := Aside0.mk H
  clear H
  go_enter Try.func24, Try.ntmps24
  go_wp2
  repeat (go_quiet (fail); try go_wp2)
  go_loopg [5] k (fun kq v5 w' => ∃ (x5_1 : Int), v5 = .int .i64 x5_1 ∧ Aside0 (fringeref10_Same.l0 kq l0 l1 x5_1 = some r) ∧ Aside0 (kq ≤ k) ∧ Drawn0 w w')
  case atStart => exact ⟨(0), (by first | rfl | (simp; done) | (simp [*]; done)), H', ⟨Nat.le_refl _⟩, by repeat (first | exact Drawn0.refl _ | apply Drawn0.step)⟩
  case round =>
    clear H'
    try clear c1
    try clear c2
    try clear p2
    try clear c3
    try clear c3b0
    try clear c3b1
    try clear c3b2
    obtain ⟨x5_1, rfl, HA, HK1, ⟨m1, rfl⟩⟩ := hrel
    cases gk with
    | zero => exact absurd HA.out (by simp [fringeref10_Same.l0])
    | succ k1 =>
      have H := HA.out
      clear HA
      simp only [fringeref10_Same.l0] at H
      by_cases c4 : x5_1 < (l0.length : Int)
      rotate_left
      · rw [if_neg c4] at H
        have c4b0 : decide (x5_1 < (l0.length : Int)) = false := decide_eq_false c4
        clear c4
        obtain rfl := Option.some.inj H
        go_wp2
        repeat (go_quiet (fail); try go_wp2)
        go_ret
        exact ⟨by first | rfl | (simp; done) | (simp [*]; done), by repeat (first | exact Drawn0.refl _ | apply Drawn0.step)⟩
      rw [if_pos c4] at H
      have c4b0 : decide (x5_1 < (l0.length : Int)) = true := decide_eq_true c4
      clear c4
      by_cases c5 : 0 ≤ x5_1
      rotate_left
      · rw [if_neg c5] at H
        exact absurd H (by simp)
      rw [if_pos c5] at H
      have c5b0 : decide (0 ≤ x5_1) = true := decide_eq_true c5
      clear c5
      by_cases c6 : x5_1 < (l1.length : Int)
      rotate_left
      · rw [if_neg c6] at H
        exact absurd H (by simp)
      rw [if_pos c6] at H
      have c6b0 : decide (x5_1 < (l1.length : Int)) = true := decide_eq_true c6
      clear c6
      by_cases c7 : (rd l0 x5_1) = (rd l1 x5_1)
      rotate_left
      · rw [if_neg c7] at H
        have c7b0 : ((rd l0 x5_1) == (rd l1 x5_1)) = false := beq_eq_false_iff_ne.mpr c7
        have c7b1 : ((rd l0 x5_1) != (rd l1 x5_1)) = true := bne_iff_ne.mpr c7
        obtain rfl := Option.some.inj H
        have p170 : 0 ≤ (x5_1 : Int) := of_decide_eq_true (by first | (with_reducible assumption) | assumption)
        have q170 : x5_1 < (l0.length : Int) := of_decide_eq_true (by first | (with_reducible assumption) | assumption)
        obtain ⟨ad170, e170, hx170_0⟩ := Kd.at_int HR0.out x5_1 p170 q170
        cases e170
        replace p170 := eq_true p170
        replace q170 := eq_true q170
        have p171 : 0 ≤ (x5_1 : Int) := of_decide_eq_true (by first | (with_reducible assumption) | assumption)
        have q171 : x5_1 < (l1.length : Int) := of_decide_eq_true (by first | (with_reducible assumption) | assumption)
        obtain ⟨ad171, e171, hx171_0⟩ := Kd.at_int HR1.out x5_1 p171 q171
        cases e171
        replace p171 := eq_true p171
        replace q171 := eq_true q171
        go_wp2
        repeat (go_quiet (fail); try go_wp2)
        go_ret
        exact ⟨by first | rfl | (simp; done) | (simp [*]; done), by repeat (first | exact Drawn0.refl _ | apply Drawn0.step)⟩
      rw [if_pos c7] at H
      have c7b0 : ((rd l0 x5_1) == (rd l1 x5_1)) = true := beq_iff_eq.mpr c7
      have c7b1 : ((rd l0 x5_1) != (rd l1 x5_1)) = false := bne_eq_false_iff_eq.mpr c7
      clear c7
      have H' := Aside0.mk H
      clear H
      have p170 : 0 ≤ (x5_1 : Int) := of_decide_eq_true (by first | (with_reducible assumption) | assumption)
      have q170 : x5_1 < (l0.length : Int) := of_decide_eq_true (by first | (with_reducible assumption) | assumption)
      obtain ⟨ad170, e170, hx170_0⟩ := Kd.at_int HR0.out x5_1 p170 q170
      cases e170
      replace p170 := eq_true p170
      replace q170 := eq_true q170
      have p171 : 0 ≤ (x5_1 : Int) := of_decide_eq_true (by first | (with_reducible assumption) | assumption)
      have q171 : x5_1 < (l1.length : Int) := of_decide_eq_true (by first | (with_reducible assumption) | assumption)
      obtain ⟨ad171, e171, hx171_0⟩ := Kd.at_int HR1.out x5_1 p171 q171
      cases e171
      replace p171 := eq_true p171
      replace q171 := eq_true q171
      go_wp2
      repeat (go_quiet (fail); try go_wp2)
      go_roundg k1
      case measure => have := HK1.out; omega
      case rel => exact ⟨(wrap64 (x5_1 + 1)), (by first | rfl | (simp; done) | (simp [*]; done)), H', ⟨by have := HK1.out; omega⟩, by repeat (first | exact Drawn0.refl _ | apply Drawn0.step)⟩

/-! ### fringelaw10_RingFinds: function 4 -/
def fringelaw10_RingFinds.f (k : Nat) (a0 : Int) (a1 : Int) (a2 : Int) : Option (Bool) := (ring_Factors.f k a2).bind fun bt172 => ((fringeref10_Factors.f k a2).bind fun bt176 => ((ring_Order.f k a0 a1).bind fun bt180 => ((fringeref10_Order.f k a0 a1).bind fun bt182 => ((ring_Generator.f k a0).bind fun bt184 => ((fringeref10_Generator.f k a0).bind fun bt186 => ((ring_Root.f k a0 a2).bind fun bt188 => ((fringeref10_Root.f k a0 a2).bind fun bt190 => ((fringeref10_Same.f k bt172.1 bt176.1).bind fun t192 => (if t192 = true then (if bt172.2 = bt176.2 then (if bt180.1 = bt182.1 then (if bt180.2 = bt182.2 then (if bt184.1 = bt186.1 then (if bt184.2 = bt186.2 then (if bt188.1 = bt190.1 then (some (bt188.2 == bt190.2)) else (some false)) else (some false)) else (some false)) else (some false)) else (some false)) else (some false)) else (some false))))))))))
theorem fringelaw10_RingFinds.mono : ∀ a0 a1 a2 k, LeO (fringelaw10_RingFinds.f k a0 a1 a2) (fringelaw10_RingFinds.f (k + 1) a0 a1 a2) := by
  intro a0 a1 a2 k
  unfold fringelaw10_RingFinds.f
  repeat' first
      | (with_reducible exact fringeref10_Factors.mono _ _)
      | (with_reducible exact fringeref10_Generator.mono _ _)
      | (with_reducible exact fringeref10_Order.mono _ _ _)
      | (with_reducible exact fringeref10_Root.mono _ _ _)
      | (with_reducible exact fringeref10_Same.mono _ _ _)
      | (with_reducible exact ring_Factors.mono _ _)
      | (with_reducible exact ring_Generator.mono _ _)
      | (with_reducible exact ring_Order.mono _ _ _)
      | (with_reducible exact ring_Root.mono _ _ _)
      | (with_reducible exact LeO.refl _)
      | (with_reducible exact LeO.none _)
      | (with_reducible refine LeO.ite ?_ ?_)
      | (with_reducible refine LeO.bind ?_ (fun _ => ?_))
      | exact fringeref10_Factors.mono _ _
      | exact fringeref10_Generator.mono _ _
      | exact fringeref10_Order.mono _ _ _
      | exact fringeref10_Root.mono _ _ _
      | exact fringeref10_Same.mono _ _ _
      | exact ring_Factors.mono _ _
      | exact ring_Generator.mono _ _
      | exact ring_Order.mono _ _ _
      | exact ring_Root.mono _ _ _
      | exact LeO.none _
      | refine LeO.ite ?_ ?_
      | refine LeO.bind ?_ (fun _ => ?_)
set_option maxHeartbeats 8000000 in
set_option maxRecDepth 100000 in
theorem fringelaw10_RingFinds.calls (k : Nat) (a0 : Int) (a1 : Int) (a2 : Int) (r : Bool) (w : World) (hrt : r = true) (h : fringelaw10_RingFinds.f k a0 a1 a2 = some r) :
    Calls Try.prog 4 #[.int .i64 a0, .int .i64 a1, .int .i64 a2] w fun e w' => e = .returned (.bool r) ∧ Below w.heap.size w w' := by
  have HB := Aside0.mk (Below.refl w.heap.size w)
  have HRT := Aside0.mk hrt
  clear hrt
  have H : ((ring_Factors.f k a2).bind fun bt172 => ((fringeref10_Factors.f k a2).bind fun bt176 => ((ring_Order.f k a0 a1).bind fun bt180 => ((fringeref10_Order.f k a0 a1).bind fun bt182 => ((ring_Generator.f k a0).bind fun bt184 => ((fringeref10_Generator.f k a0).bind fun bt186 => ((ring_Root.f k a0 a2).bind fun bt188 => ((fringeref10_Root.f k a0 a2).bind fun bt190 => ((fringeref10_Same.f k bt172.1 bt176.1).bind fun t192 => (if t192 = true then (if bt172.2 = bt176.2 then (if bt180.1 = bt182.1 then (if bt180.2 = bt182.2 then (if bt184.1 = bt186.1 then (if bt184.2 = bt186.2 then (if bt188.1 = bt190.1 then (some (bt188.2 == bt190.2)) else (some false)) else (some false)) else (some false)) else (some false)) else (some false)) else (some false)) else (some false))))))))))) = some r := h
  clear h
  replace H := Option.bind_eq_some_iff.mp H
  obtain ⟨⟨t172, t173⟩, A40, H⟩ := H
  replace H : ((fringeref10_Factors.f k a2).bind fun bt176 => ((ring_Order.f k a0 a1).bind fun bt180 => ((fringeref10_Order.f k a0 a1).bind fun bt182 => ((ring_Generator.f k a0).bind fun bt184 => ((fringeref10_Generator.f k a0).bind fun bt186 => ((ring_Root.f k a0 a2).bind fun bt188 => ((fringeref10_Root.f k a0 a2).bind fun bt190 => ((fringeref10_Same.f k t172 bt176.1).bind fun t192 => (if t192 = true then (if t173 = bt176.2 then (if bt180.1 = bt182.1 then (if bt180.2 = bt182.2 then (if bt184.1 = bt186.1 then (if bt184.2 = bt186.2 then (if bt188.1 = bt190.1 then (some (bt188.2 == bt190.2)) else (some false)) else (some false)) else (some false)) else (some false)) else (some false)) else (some false)) else (some false)))))))))) = some r := H
  have A4 := Aside0.mk A40
  clear A40
  replace H := Option.bind_eq_some_iff.mp H
  obtain ⟨⟨t176, t177⟩, A50, H⟩ := H
  replace H : ((ring_Order.f k a0 a1).bind fun bt180 => ((fringeref10_Order.f k a0 a1).bind fun bt182 => ((ring_Generator.f k a0).bind fun bt184 => ((fringeref10_Generator.f k a0).bind fun bt186 => ((ring_Root.f k a0 a2).bind fun bt188 => ((fringeref10_Root.f k a0 a2).bind fun bt190 => ((fringeref10_Same.f k t172 t176).bind fun t192 => (if t192 = true then (if t173 = t177 then (if bt180.1 = bt182.1 then (if bt180.2 = bt182.2 then (if bt184.1 = bt186.1 then (if bt184.2 = bt186.2 then (if bt188.1 = bt190.1 then (some (bt188.2 == bt190.2)) else (some false)) else (some false)) else (some false)) else (some false)) else (some false)) else (some false)) else (some false))))))))) = some r := H
  have A5 := Aside0.mk A50
  clear A50
  replace H := Option.bind_eq_some_iff.mp H
  obtain ⟨⟨t180, t181⟩, A60, H⟩ := H
  replace H : ((fringeref10_Order.f k a0 a1).bind fun bt182 => ((ring_Generator.f k a0).bind fun bt184 => ((fringeref10_Generator.f k a0).bind fun bt186 => ((ring_Root.f k a0 a2).bind fun bt188 => ((fringeref10_Root.f k a0 a2).bind fun bt190 => ((fringeref10_Same.f k t172 t176).bind fun t192 => (if t192 = true then (if t173 = t177 then (if t180 = bt182.1 then (if t181 = bt182.2 then (if bt184.1 = bt186.1 then (if bt184.2 = bt186.2 then (if bt188.1 = bt190.1 then (some (bt188.2 == bt190.2)) else (some false)) else (some false)) else (some false)) else (some false)) else (some false)) else (some false)) else (some false)))))))) = some r := H
  have A6 := Aside0.mk A60
  clear A60
  replace H := Option.bind_eq_some_iff.mp H
  obtain ⟨⟨t182, t183⟩, A70, H⟩ := H
  replace H : ((ring_Generator.f k a0).bind fun bt184 => ((fringeref10_Generator.f k a0).bind fun bt186 => ((ring_Root.f k a0 a2).bind fun bt188 => ((fringeref10_Root.f k a0 a2).bind fun bt190 => ((fringeref10_Same.f k t172 t176).bind fun t192 => (if t192 = true then (if t173 = t177 then (if t180 = t182 then (if t181 = t183 then (if bt184.1 = bt186.1 then (if bt184.2 = bt186.2 then (if bt188.1 = bt190.1 then (some (bt188.2 == bt190.2)) else (some false)) else (some false)) else (some false)) else (some false)) else (some false)) else (some false)) else (some false))))))) = some r := H
  have A7 := Aside0.mk A70
  clear A70
  replace H := Option.bind_eq_some_iff.mp H
  obtain ⟨⟨t184, t185⟩, A80, H⟩ := H
  replace H : ((fringeref10_Generator.f k a0).bind fun bt186 => ((ring_Root.f k a0 a2).bind fun bt188 => ((fringeref10_Root.f k a0 a2).bind fun bt190 => ((fringeref10_Same.f k t172 t176).bind fun t192 => (if t192 = true then (if t173 = t177 then (if t180 = t182 then (if t181 = t183 then (if t184 = bt186.1 then (if t185 = bt186.2 then (if bt188.1 = bt190.1 then (some (bt188.2 == bt190.2)) else (some false)) else (some false)) else (some false)) else (some false)) else (some false)) else (some false)) else (some false)))))) = some r := H
  have A8 := Aside0.mk A80
  clear A80
  replace H := Option.bind_eq_some_iff.mp H
  obtain ⟨⟨t186, t187⟩, A90, H⟩ := H
  replace H : ((ring_Root.f k a0 a2).bind fun bt188 => ((fringeref10_Root.f k a0 a2).bind fun bt190 => ((fringeref10_Same.f k t172 t176).bind fun t192 => (if t192 = true then (if t173 = t177 then (if t180 = t182 then (if t181 = t183 then (if t184 = t186 then (if t185 = t187 then (if bt188.1 = bt190.1 then (some (bt188.2 == bt190.2)) else (some false)) else (some false)) else (some false)) else (some false)) else (some false)) else (some false)) else (some false))))) = some r := H
  have A9 := Aside0.mk A90
  clear A90
  replace H := Option.bind_eq_some_iff.mp H
  obtain ⟨⟨t188, t189⟩, A100, H⟩ := H
  replace H : ((fringeref10_Root.f k a0 a2).bind fun bt190 => ((fringeref10_Same.f k t172 t176).bind fun t192 => (if t192 = true then (if t173 = t177 then (if t180 = t182 then (if t181 = t183 then (if t184 = t186 then (if t185 = t187 then (if t188 = bt190.1 then (some (t189 == bt190.2)) else (some false)) else (some false)) else (some false)) else (some false)) else (some false)) else (some false)) else (some false)))) = some r := H
  have A10 := Aside0.mk A100
  clear A100
  replace H := Option.bind_eq_some_iff.mp H
  obtain ⟨⟨t190, t191⟩, A110, H⟩ := H
  replace H : ((fringeref10_Same.f k t172 t176).bind fun t192 => (if t192 = true then (if t173 = t177 then (if t180 = t182 then (if t181 = t183 then (if t184 = t186 then (if t185 = t187 then (if t188 = t190 then (some (t189 == t191)) else (some false)) else (some false)) else (some false)) else (some false)) else (some false)) else (some false)) else (some false))) = some r := H
  have A11 := Aside0.mk A110
  clear A110
  replace H := Option.bind_eq_some_iff.mp H
  obtain ⟨t192, A120, H⟩ := H
  replace H : (if t192 = true then (if t173 = t177 then (if t180 = t182 then (if t181 = t183 then (if t184 = t186 then (if t185 = t187 then (if t188 = t190 then (some (t189 == t191)) else (some false)) else (some false)) else (some false)) else (some false)) else (some false)) else (some false)) else (some false)) = some r := H
  have A12 := Aside0.mk A120
  clear A120
  by_cases c13 : t192 = true
  rotate_left
  · replace c13 := Bool.eq_false_iff.mpr c13
    subst c13
    have H1 : (some false) = some r := by rw [if_neg (show ¬ (false = true) by decide)] at H; exact H
    clear H
    have H := H1
    clear H1
    exact absurd ((Option.some.inj H).trans HRT.out) (by decide)

  subst c13
  have H1 : (if t173 = t177 then (if t180 = t182 then (if t181 = t183 then (if t184 = t186 then (if t185 = t187 then (if t188 = t190 then (some (t189 == t191)) else (some false)) else (some false)) else (some false)) else (some false)) else (some false)) else (some false)) = some r := by rw [if_pos rfl] at H; exact H
  clear H
  have H := H1
  clear H1
  by_cases c14 : t173 = t177
  rotate_left
  · rw [if_neg c14] at H
    have c14b0 : (t173 == t177) = false := beq_eq_false_iff_ne.mpr c14
    have c14b1 : (t173 != t177) = true := bne_iff_ne.mpr c14
    exact absurd ((Option.some.inj H).trans HRT.out) (by decide)
  rw [if_pos c14] at H
  have c14b0 : (t173 == t177) = true := beq_iff_eq.mpr c14
  have c14b1 : (t173 != t177) = false := bne_eq_false_iff_eq.mpr c14
  clear c14
  by_cases c15 : t180 = t182
  rotate_left
  · rw [if_neg c15] at H
    have c15b0 : (t180 == t182) = false := beq_eq_false_iff_ne.mpr c15
    have c15b1 : (t180 != t182) = true := bne_iff_ne.mpr c15
    exact absurd ((Option.some.inj H).trans HRT.out) (by decide)
  rw [if_pos c15] at H
  have c15b0 : (t180 == t182) = true := beq_iff_eq.mpr c15
  have c15b1 : (t180 != t182) = false := bne_eq_false_iff_eq.mpr c15
  clear c15
  by_cases c16 : t181 = t183
  rotate_left
  · rw [if_neg c16] at H
    have c16b0 : (t181 == t183) = false := beq_eq_false_iff_ne.mpr c16
    have c16b1 : (t181 != t183) = true := bne_iff_ne.mpr c16
    exact absurd ((Option.some.inj H).trans HRT.out) (by decide)
  rw [if_pos c16] at H
  have c16b0 : (t181 == t183) = true := beq_iff_eq.mpr c16
  have c16b1 : (t181 != t183) = false := bne_eq_false_iff_eq.mpr c16
  clear c16
  by_cases c17 : t184 = t186
  rotate_left
  · rw [if_neg c17] at H
    have c17b0 : (t184 == t186) = false := beq_eq_false_iff_ne.mpr c17
    have c17b1 : (t184 != t186) = true := bne_iff_ne.mpr c17
    exact absurd ((Option.some.inj H).trans HRT.out) (by decide)
  rw [if_pos c17] at H
  have c17b0 : (t184 == t186) = true := beq_iff_eq.mpr c17
  have c17b1 : (t184 != t186) = false := bne_eq_false_iff_eq.mpr c17
  clear c17
  by_cases c18 : t185 = t187
  rotate_left
  · rw [if_neg c18] at H
    have c18b0 : (t185 == t187) = false := beq_eq_false_iff_ne.mpr c18
    have c18b1 : (t185 != t187) = true := bne_iff_ne.mpr c18
    exact absurd ((Option.some.inj H).trans HRT.out) (by decide)
  rw [if_pos c18] at H
  have c18b0 : (t185 == t187) = true := beq_iff_eq.mpr c18
  have c18b1 : (t185 != t187) = false := bne_eq_false_iff_eq.mpr c18
  clear c18
  by_cases c19 : t188 = t190
  rotate_left
  · rw [if_neg c19] at H
    have c19b0 : (t188 == t190) = false := beq_eq_false_iff_ne.mpr c19
    have c19b1 : (t188 != t190) = true := bne_iff_ne.mpr c19
    exact absurd ((Option.some.inj H).trans HRT.out) (by decide)
  rw [if_pos c19] at H
  have c19b0 : (t188 == t190) = true := beq_iff_eq.mpr c19
  have c19b1 : (t188 != t190) = false := bne_eq_false_iff_eq.mpr c19
  clear c19
  obtain rfl := Option.some.inj H
  go_enter Try.func4, Try.ntmps4
  go_wp2_with (first | ((with_reducible refine gate_callee (f := 16) rfl ?_); refine goesL_ (some 25) rfl rfl Try.func16 (by kernel_rfl) rfl #[.int .i64 a2] rfl (by (try simp only [List.map_toArray, List.map_cons, List.map_nil]); first | done | rfl | (simp only [List.length_drop, List.length_take]; rfl)) ?_; (with_reducible refine (ring_Factors.calls k a2 t172 t173 _ A4.out).mono ?_); rintro e w20 ⟨v174, rfl, ho0, hb⟩; refine ⟨_, rfl, ?_⟩; have n0_ := Aside0.mk (Kd.R_lower ho0 (below_size (by repeat (first | (with_reducible first | exact HB.out | apply below_alloc | apply pw_below_drewN | apply below_drew1) | exact HB.out)))); have n1_ := Aside0.mk (below_step (by repeat (first | (with_reducible first | exact HB.out | apply below_alloc | apply pw_below_drewN | apply below_drew1) | exact HB.out)) hb); clear HB; have HO175 := n0_; have HB := n1_; clear n0_ n1_; (try clear hb); (try clear hb2); (try clear hk); (try clear hi); (try clear ho0)) | ((with_reducible refine gate_callee (f := 17) rfl ?_); refine goesL_ (some 30) rfl rfl Try.func17 (by kernel_rfl) rfl #[.int .i64 a2] rfl (by (try simp only [List.map_toArray, List.map_cons, List.map_nil]); first | done | rfl | (simp only [List.length_drop, List.length_take]; rfl)) ?_; (with_reducible refine (fringeref10_Factors.calls k a2 t176 t177 _ A5.out).mono ?_); rintro e w21 ⟨v178, rfl, ho0, hb⟩; refine ⟨_, rfl, ?_⟩; have n0_ := Aside0.mk (Kd.R_elder' (by (with_reducible repeat (first | apply Kd.R_alloc | apply Kd.R_drewN | apply Kd.R_drew)); exact HO175.out) (Kd.R_base ho0) hb); have n1_ := Aside0.mk (Kd.R_lower (Kd.R_new' ho0 (Kd.R_lt (by (with_reducible repeat (first | apply Kd.R_alloc | apply Kd.R_drewN | apply Kd.R_drew)); exact HO175.out))) (below_size (by repeat (first | (with_reducible first | exact HB.out | apply below_alloc | apply pw_below_drewN | apply below_drew1) | exact HB.out)))); have n2_ := Aside0.mk (below_step (by repeat (first | (with_reducible first | exact HB.out | apply below_alloc | apply pw_below_drewN | apply below_drew1) | exact HB.out)) hb); clear HO175; clear HB; have HO175 := n0_; have HO179 := n1_; have HB := n2_; clear n0_ n1_ n2_; (try clear hb); (try clear hb2); (try clear hk); (try clear hi); (try clear ho0)) | ((with_reducible refine gate_callee (f := 18) rfl ?_); refine goesL_ (some 36) rfl rfl Try.func18 (by kernel_rfl) rfl #[.int .i64 a0, .int .i64 a1] rfl (by (try simp only [List.map_toArray, List.map_cons, List.map_nil]); first | done | rfl | (simp only [List.length_drop, List.length_take]; rfl)) ?_; (with_reducible refine (ring_Order.calls k a0 a1 t180 t181 _ A6.out).mono ?_); rintro e w22 ⟨rfl, hb⟩; refine ⟨_, rfl, ?_⟩; have n0_ := Aside0.mk (Kd.R_below (by (with_reducible repeat (first | apply Kd.R_alloc | apply Kd.R_drewN | apply Kd.R_drew)); exact HO175.out) hb); have n1_ := Aside0.mk (Kd.R_below (by (with_reducible repeat (first | apply Kd.R_alloc | apply Kd.R_drewN | apply Kd.R_drew)); exact HO179.out) hb); have n2_ := Aside0.mk (below_step (by repeat (first | (with_reducible first | exact HB.out | apply below_alloc | apply pw_below_drewN | apply below_drew1) | exact HB.out)) hb); clear HO175; clear HO179; clear HB; have HO175 := n0_; have HO179 := n1_; have HB := n2_; clear n0_ n1_ n2_; (try clear hb); (try clear hb2); (try clear hk); (try clear hi)) | ((with_reducible refine gate_callee (f := 19) rfl ?_); refine goesL_ (some 42) rfl rfl Try.func19 (by kernel_rfl) rfl #[.int .i64 a0, .int .i64 a1] rfl (by (try simp only [List.map_toArray, List.map_cons, List.map_nil]); first | done | rfl | (simp only [List.length_drop, List.length_take]; rfl)) ?_; (with_reducible refine (fringeref10_Order.calls k a0 a1 t182 t183 _ A7.out).mono ?_); rintro e w23 ⟨rfl, hb⟩; refine ⟨_, rfl, ?_⟩; have n0_ := Aside0.mk (Kd.R_below (by (with_reducible repeat (first | apply Kd.R_alloc | apply Kd.R_drewN | apply Kd.R_drew)); exact HO175.out) hb); have n1_ := Aside0.mk (Kd.R_below (by (with_reducible repeat (first | apply Kd.R_alloc | apply Kd.R_drewN | apply Kd.R_drew)); exact HO179.out) hb); have n2_ := Aside0.mk (below_step (by repeat (first | (with_reducible first | exact HB.out | apply below_alloc | apply pw_below_drewN | apply below_drew1) | exact HB.out)) hb); clear HO175; clear HO179; clear HB; have HO175 := n0_; have HO179 := n1_; have HB := n2_; clear n0_ n1_ n2_; (try clear hb); (try clear hb2); (try clear hk); (try clear hi)) | ((with_reducible refine gate_callee (f := 20) rfl ?_); refine goesL_ (some 47) rfl rfl Try.func20 (by kernel_rfl) rfl #[.int .i64 a0] rfl (by (try simp only [List.map_toArray, List.map_cons, List.map_nil]); first | done | rfl | (simp only [List.length_drop, List.length_take]; rfl)) ?_; (with_reducible refine (ring_Generator.calls k a0 t184 t185 _ A8.out).mono ?_); rintro e w24 ⟨rfl, hb⟩; refine ⟨_, rfl, ?_⟩; have n0_ := Aside0.mk (Kd.R_below (by (with_reducible repeat (first | apply Kd.R_alloc | apply Kd.R_drewN | apply Kd.R_drew)); exact HO175.out) hb); have n1_ := Aside0.mk (Kd.R_below (by (with_reducible repeat (first | apply Kd.R_alloc | apply Kd.R_drewN | apply Kd.R_drew)); exact HO179.out) hb); have n2_ := Aside0.mk (below_step (by repeat (first | (with_reducible first | exact HB.out | apply below_alloc | apply pw_below_drewN | apply below_drew1) | exact HB.out)) hb); clear HO175; clear HO179; clear HB; have HO175 := n0_; have HO179 := n1_; have HB := n2_; clear n0_ n1_ n2_; (try clear hb); (try clear hb2); (try clear hk); (try clear hi)) | ((with_reducible refine gate_callee (f := 21) rfl ?_); refine goesL_ (some 52) rfl rfl Try.func21 (by kernel_rfl) rfl #[.int .i64 a0] rfl (by (try simp only [List.map_toArray, List.map_cons, List.map_nil]); first | done | rfl | (simp only [List.length_drop, List.length_take]; rfl)) ?_; (with_reducible refine (fringeref10_Generator.calls k a0 t186 t187 _ A9.out).mono ?_); rintro e w25 ⟨rfl, hb⟩; refine ⟨_, rfl, ?_⟩; have n0_ := Aside0.mk (Kd.R_below (by (with_reducible repeat (first | apply Kd.R_alloc | apply Kd.R_drewN | apply Kd.R_drew)); exact HO175.out) hb); have n1_ := Aside0.mk (Kd.R_below (by (with_reducible repeat (first | apply Kd.R_alloc | apply Kd.R_drewN | apply Kd.R_drew)); exact HO179.out) hb); have n2_ := Aside0.mk (below_step (by repeat (first | (with_reducible first | exact HB.out | apply below_alloc | apply pw_below_drewN | apply below_drew1) | exact HB.out)) hb); clear HO175; clear HO179; clear HB; have HO175 := n0_; have HO179 := n1_; have HB := n2_; clear n0_ n1_ n2_; (try clear hb); (try clear hb2); (try clear hk); (try clear hi)) | ((with_reducible refine gate_callee (f := 22) rfl ?_); refine goesL_ (some 58) rfl rfl Try.func22 (by kernel_rfl) rfl #[.int .i64 a0, .int .i64 a2] rfl (by (try simp only [List.map_toArray, List.map_cons, List.map_nil]); first | done | rfl | (simp only [List.length_drop, List.length_take]; rfl)) ?_; (with_reducible refine (ring_Root.calls k a0 a2 t188 t189 _ A10.out).mono ?_); rintro e w26 ⟨rfl, hb⟩; refine ⟨_, rfl, ?_⟩; have n0_ := Aside0.mk (Kd.R_below (by (with_reducible repeat (first | apply Kd.R_alloc | apply Kd.R_drewN | apply Kd.R_drew)); exact HO175.out) hb); have n1_ := Aside0.mk (Kd.R_below (by (with_reducible repeat (first | apply Kd.R_alloc | apply Kd.R_drewN | apply Kd.R_drew)); exact HO179.out) hb); have n2_ := Aside0.mk (below_step (by repeat (first | (with_reducible first | exact HB.out | apply below_alloc | apply pw_below_drewN | apply below_drew1) | exact HB.out)) hb); clear HO175; clear HO179; clear HB; have HO175 := n0_; have HO179 := n1_; have HB := n2_; clear n0_ n1_ n2_; (try clear hb); (try clear hb2); (try clear hk); (try clear hi)) | ((with_reducible refine gate_callee (f := 23) rfl ?_); refine goesL_ (some 64) rfl rfl Try.func23 (by kernel_rfl) rfl #[.int .i64 a0, .int .i64 a2] rfl (by (try simp only [List.map_toArray, List.map_cons, List.map_nil]); first | done | rfl | (simp only [List.length_drop, List.length_take]; rfl)) ?_; (with_reducible refine (fringeref10_Root.calls k a0 a2 t190 t191 _ A11.out).mono ?_); rintro e w27 ⟨rfl, hb⟩; refine ⟨_, rfl, ?_⟩; have n0_ := Aside0.mk (Kd.R_below (by (with_reducible repeat (first | apply Kd.R_alloc | apply Kd.R_drewN | apply Kd.R_drew)); exact HO175.out) hb); have n1_ := Aside0.mk (Kd.R_below (by (with_reducible repeat (first | apply Kd.R_alloc | apply Kd.R_drewN | apply Kd.R_drew)); exact HO179.out) hb); have n2_ := Aside0.mk (below_step (by repeat (first | (with_reducible first | exact HB.out | apply below_alloc | apply pw_below_drewN | apply below_drew1) | exact HB.out)) hb); clear HO175; clear HO179; clear HB; have HO175 := n0_; have HO179 := n1_; have HB := n2_; clear n0_ n1_ n2_; (try clear hb); (try clear hb2); (try clear hk); (try clear hi); obtain ⟨Ao28, co28, eo28⟩ := Kd.R_slice HO175.out; subst eo28; obtain ⟨Ao29, co29, eo29⟩ := Kd.R_slice HO179.out; subst eo29) | ((with_reducible refine gate_callee (f := 24) rfl ?_); refine goesL_ (some 69) rfl rfl Try.func24 (by kernel_rfl) rfl #[.slice Ao28 t172.length co28, .slice Ao29 t176.length co29] rfl (by (try simp only [List.map_toArray, List.map_cons, List.map_nil]); first | done | rfl | (simp only [List.length_drop, List.length_take]; rfl)) ?_; (with_reducible refine (fringeref10_Same.calls k _ _ t172 _ _ t176 true _ ?side1 ?side2 ?side3 ?side4 A12.out).mono ?_); (case side1 => repeat (first | exact (Kd.R_reads' HO175.out).2.2 | (with_reducible refine Kd.C_alloc ?_ _) | (with_reducible refine Kd.C_drewN ?_ _) | (with_reducible refine Kd.C_drew ?_))); (case side2 => exact (Kd.R_reads' HO175.out).2.1); (case side3 => repeat (first | exact (Kd.R_reads' HO179.out).2.2 | (with_reducible refine Kd.C_alloc ?_ _) | (with_reducible refine Kd.C_drewN ?_ _) | (with_reducible refine Kd.C_drew ?_))); (case side4 => exact (Kd.R_reads' HO179.out).2.1); rintro e w' ⟨rfl, ⟨nd, rfl⟩⟩; refine ⟨_, rfl, ?_⟩))
  go_ret
  exact ⟨by first | rfl | (simp [errW_none, errW_some] <;> rfl) | (simp [*, errW_none, errW_some] <;> rfl), by repeat (first | (with_reducible first | exact HB.out | apply below_alloc | apply pw_below_drewN | apply below_drew1) | exact HB.out)⟩
/-- THE ONE PURE STATEMENT of fringelaw10_RingFinds: yours. -/
def fringelaw10_RingFinds.Pure : Prop := ∀ (a0 : Int) (a1 : Int) (a2 : Int), (Lit.int .i64 a0).wf = true → (Lit.int .i64 a1).wf = true → (Lit.int .i64 a2).wf = true → ∃ k, fringelaw10_RingFinds.f k a0 a1 a2 = some true
theorem fringelaw10_RingFinds.walk (P : fringelaw10_RingFinds.Pure) (a0 : Int) (a1 : Int) (a2 : Int) (w : World) (w0 : (Lit.int .i64 a0).wf = true) (w1 : (Lit.int .i64 a1).wf = true) (w2 : (Lit.int .i64 a2).wf = true) :
    Calls Try.prog 4 #[.int .i64 a0, .int .i64 a1, .int .i64 a2] w fun e w' => e = .returned (.bool true) ∧ Below w.heap.size w w' := by
  obtain ⟨k, h⟩ := P a0 a1 a2 w0 w1 w2
  refine (fringelaw10_RingFinds.calls k a0 a1 a2 true w rfl h).mono ?_
  rintro e w' ⟨rfl, hd⟩
  exact ⟨rfl, hd⟩

/-! ### fringelaw10_is: function 28 -/
def fringelaw10_is.f (a0 : Int) (a1 : Int) (a2 : Int) : Option (Bool) := if a1 = 0 then (some (a0 == a2)) else (some false)
set_option maxHeartbeats 8000000 in
set_option maxRecDepth 100000 in
theorem fringelaw10_is.calls (a0 : Int) (a1 : Int) (a2 : Int) (r : Bool) (w : World) (h : fringelaw10_is.f a0 a1 a2 = some r) :
    Calls Try.prog 28 #[.int .i64 a0, .int .i64 a1, .int .i64 a2] w fun e w' => e = .returned (.bool r) ∧ Drawn0 w w' := by
  have H : (if a1 = 0 then (some (a0 == a2)) else (some false)) = some r := h
  clear h
  by_cases c4 : a1 = 0
  rotate_left
  · rw [if_neg c4] at H
    have c4b0 : (a1 == 0) = false := beq_eq_false_iff_ne.mpr c4
    have c4b1 : (a1 != 0) = true := bne_iff_ne.mpr c4
    obtain rfl := Option.some.inj H
    go_enter Try.func28, Try.ntmps28
    go_wp2
    go_ret
    exact ⟨by first | rfl | (simp; done) | (simp [*]; done), by repeat (first | exact Drawn0.refl _ | apply Drawn0.step)⟩
  rw [if_pos c4] at H
  have c4b0 : (a1 == 0) = true := beq_iff_eq.mpr c4
  have c4b1 : (a1 != 0) = false := bne_eq_false_iff_eq.mpr c4
  clear c4
  obtain rfl := Option.some.inj H
  go_enter Try.func28, Try.ntmps28
  go_wp2
  go_ret
  exact ⟨by first | rfl | (simp; done) | (simp [*]; done), by repeat (first | exact Drawn0.refl _ | apply Drawn0.step)⟩

/-! ### fringelaw10_alive_c: function 26 -/
def fringelaw10_alive_c.f (k : Nat)  : Option (Bool) := (ring_Inv.f k 7 3).bind fun bt193 => ((ring_Order.f k 7 2).bind fun bt195 => ((ring_Generator.f k 7).bind fun bt197 => ((ring_Root.f k 7 2).bind fun bt199 => ((ring_Root.f k 7 3).bind fun bt201 => ((ring_Root.f k 7 4).bind fun bt203 => ((ring_Generator.f k 17).bind fun bt205 => ((ring_Root.f k 17 16).bind fun bt207 => ((ring_Root.f k 17 4).bind fun bt209 => ((ring_Factors.f k 360).bind fun bt211 => ((fringelaw10_is.f bt193.1 bt193.2 5).bind fun t215 => (if t215 = true then ((fringelaw10_is.f bt195.1 bt195.2 3).bind fun t216 => (if t216 = true then ((fringelaw10_is.f bt197.1 bt197.2 3).bind fun t217 => (if t217 = true then ((fringelaw10_is.f bt199.1 bt199.2 6).bind fun t218 => (if t218 = true then ((fringelaw10_is.f bt201.1 bt201.2 2).bind fun t219 => (if t219 = true then (if bt203.2 = 6 then ((fringelaw10_is.f bt205.1 bt205.2 3).bind fun t220 => (if t220 = true then ((fringelaw10_is.f bt207.1 bt207.2 3).bind fun t221 => (if t221 = true then ((fringelaw10_is.f bt209.1 bt209.2 13).bind fun t222 => (if t222 = true then (if bt211.2 = 0 then ((fringeref10_Same.f k bt211.1 (([2, 2, 2, 3, 3, 5] : List Int))).bind fun t226 => (some t226)) else (some false)) else (some false))) else (some false))) else (some false))) else (some false)) else (some false))) else (some false))) else (some false))) else (some false))) else (some false))))))))))))
theorem fringelaw10_alive_c.mono : ∀ k, LeO (fringelaw10_alive_c.f k ) (fringelaw10_alive_c.f (k + 1) ) := by
  intro  k
  unfold fringelaw10_alive_c.f
  repeat' first
      | (with_reducible exact fringeref10_Same.mono _ _ _)
      | (with_reducible exact ring_Factors.mono _ _)
      | (with_reducible exact ring_Generator.mono _ _)
      | (with_reducible exact ring_Inv.mono _ _ _)
      | (with_reducible exact ring_Order.mono _ _ _)
      | (with_reducible exact ring_Root.mono _ _ _)
      | (with_reducible exact LeO.refl _)
      | (with_reducible exact LeO.none _)
      | (with_reducible refine LeO.ite ?_ ?_)
      | (with_reducible refine LeO.bind ?_ (fun _ => ?_))
      | exact fringeref10_Same.mono _ _ _
      | exact ring_Factors.mono _ _
      | exact ring_Generator.mono _ _
      | exact ring_Inv.mono _ _ _
      | exact ring_Order.mono _ _ _
      | exact ring_Root.mono _ _ _
      | exact LeO.none _
      | refine LeO.ite ?_ ?_
      | refine LeO.bind ?_ (fun _ => ?_)
set_option maxHeartbeats 8000000 in
set_option maxRecDepth 100000 in
theorem fringelaw10_alive_c.calls (k : Nat)  (r : Bool) (w : World) (hrt : r = true) (h : fringelaw10_alive_c.f k  = some r) :
    Calls Try.prog 26 #[] w fun e w' => e = .returned (.bool r) ∧ Below w.heap.size w w' := by
  have HB := Aside0.mk (Below.refl w.heap.size w)
  have HRT := Aside0.mk hrt
  clear hrt
  have H : ((ring_Inv.f k 7 3).bind fun bt193 => ((ring_Order.f k 7 2).bind fun bt195 => ((ring_Generator.f k 7).bind fun bt197 => ((ring_Root.f k 7 2).bind fun bt199 => ((ring_Root.f k 7 3).bind fun bt201 => ((ring_Root.f k 7 4).bind fun bt203 => ((ring_Generator.f k 17).bind fun bt205 => ((ring_Root.f k 17 16).bind fun bt207 => ((ring_Root.f k 17 4).bind fun bt209 => ((ring_Factors.f k 360).bind fun bt211 => ((fringelaw10_is.f bt193.1 bt193.2 5).bind fun t215 => (if t215 = true then ((fringelaw10_is.f bt195.1 bt195.2 3).bind fun t216 => (if t216 = true then ((fringelaw10_is.f bt197.1 bt197.2 3).bind fun t217 => (if t217 = true then ((fringelaw10_is.f bt199.1 bt199.2 6).bind fun t218 => (if t218 = true then ((fringelaw10_is.f bt201.1 bt201.2 2).bind fun t219 => (if t219 = true then (if bt203.2 = 6 then ((fringelaw10_is.f bt205.1 bt205.2 3).bind fun t220 => (if t220 = true then ((fringelaw10_is.f bt207.1 bt207.2 3).bind fun t221 => (if t221 = true then ((fringelaw10_is.f bt209.1 bt209.2 13).bind fun t222 => (if t222 = true then (if bt211.2 = 0 then ((fringeref10_Same.f k bt211.1 (([2, 2, 2, 3, 3, 5] : List Int))).bind fun t226 => (some t226)) else (some false)) else (some false))) else (some false))) else (some false))) else (some false)) else (some false))) else (some false))) else (some false))) else (some false))) else (some false))))))))))))) = some r := h
  clear h
  replace H := Option.bind_eq_some_iff.mp H
  obtain ⟨⟨t193, t194⟩, A10, H⟩ := H
  replace H : ((ring_Order.f k 7 2).bind fun bt195 => ((ring_Generator.f k 7).bind fun bt197 => ((ring_Root.f k 7 2).bind fun bt199 => ((ring_Root.f k 7 3).bind fun bt201 => ((ring_Root.f k 7 4).bind fun bt203 => ((ring_Generator.f k 17).bind fun bt205 => ((ring_Root.f k 17 16).bind fun bt207 => ((ring_Root.f k 17 4).bind fun bt209 => ((ring_Factors.f k 360).bind fun bt211 => ((fringelaw10_is.f t193 t194 5).bind fun t215 => (if t215 = true then ((fringelaw10_is.f bt195.1 bt195.2 3).bind fun t216 => (if t216 = true then ((fringelaw10_is.f bt197.1 bt197.2 3).bind fun t217 => (if t217 = true then ((fringelaw10_is.f bt199.1 bt199.2 6).bind fun t218 => (if t218 = true then ((fringelaw10_is.f bt201.1 bt201.2 2).bind fun t219 => (if t219 = true then (if bt203.2 = 6 then ((fringelaw10_is.f bt205.1 bt205.2 3).bind fun t220 => (if t220 = true then ((fringelaw10_is.f bt207.1 bt207.2 3).bind fun t221 => (if t221 = true then ((fringelaw10_is.f bt209.1 bt209.2 13).bind fun t222 => (if t222 = true then (if bt211.2 = 0 then ((fringeref10_Same.f k bt211.1 (([2, 2, 2, 3, 3, 5] : List Int))).bind fun t226 => (some t226)) else (some false)) else (some false))) else (some false))) else (some false))) else (some false)) else (some false))) else (some false))) else (some false))) else (some false))) else (some false)))))))))))) = some r := H
  have A1 := Aside0.mk A10
  clear A10
  replace H := Option.bind_eq_some_iff.mp H
  obtain ⟨⟨t195, t196⟩, A20, H⟩ := H
  replace H : ((ring_Generator.f k 7).bind fun bt197 => ((ring_Root.f k 7 2).bind fun bt199 => ((ring_Root.f k 7 3).bind fun bt201 => ((ring_Root.f k 7 4).bind fun bt203 => ((ring_Generator.f k 17).bind fun bt205 => ((ring_Root.f k 17 16).bind fun bt207 => ((ring_Root.f k 17 4).bind fun bt209 => ((ring_Factors.f k 360).bind fun bt211 => ((fringelaw10_is.f t193 t194 5).bind fun t215 => (if t215 = true then ((fringelaw10_is.f t195 t196 3).bind fun t216 => (if t216 = true then ((fringelaw10_is.f bt197.1 bt197.2 3).bind fun t217 => (if t217 = true then ((fringelaw10_is.f bt199.1 bt199.2 6).bind fun t218 => (if t218 = true then ((fringelaw10_is.f bt201.1 bt201.2 2).bind fun t219 => (if t219 = true then (if bt203.2 = 6 then ((fringelaw10_is.f bt205.1 bt205.2 3).bind fun t220 => (if t220 = true then ((fringelaw10_is.f bt207.1 bt207.2 3).bind fun t221 => (if t221 = true then ((fringelaw10_is.f bt209.1 bt209.2 13).bind fun t222 => (if t222 = true then (if bt211.2 = 0 then ((fringeref10_Same.f k bt211.1 (([2, 2, 2, 3, 3, 5] : List Int))).bind fun t226 => (some t226)) else (some false)) else (some false))) else (some false))) else (some false))) else (some false)) else (some false))) else (some false))) else (some false))) else (some false))) else (some false))))))))))) = some r := H
  have A2 := Aside0.mk A20
  clear A20
  replace H := Option.bind_eq_some_iff.mp H
  obtain ⟨⟨t197, t198⟩, A30, H⟩ := H
  replace H : ((ring_Root.f k 7 2).bind fun bt199 => ((ring_Root.f k 7 3).bind fun bt201 => ((ring_Root.f k 7 4).bind fun bt203 => ((ring_Generator.f k 17).bind fun bt205 => ((ring_Root.f k 17 16).bind fun bt207 => ((ring_Root.f k 17 4).bind fun bt209 => ((ring_Factors.f k 360).bind fun bt211 => ((fringelaw10_is.f t193 t194 5).bind fun t215 => (if t215 = true then ((fringelaw10_is.f t195 t196 3).bind fun t216 => (if t216 = true then ((fringelaw10_is.f t197 t198 3).bind fun t217 => (if t217 = true then ((fringelaw10_is.f bt199.1 bt199.2 6).bind fun t218 => (if t218 = true then ((fringelaw10_is.f bt201.1 bt201.2 2).bind fun t219 => (if t219 = true then (if bt203.2 = 6 then ((fringelaw10_is.f bt205.1 bt205.2 3).bind fun t220 => (if t220 = true then ((fringelaw10_is.f bt207.1 bt207.2 3).bind fun t221 => (if t221 = true then ((fringelaw10_is.f bt209.1 bt209.2 13).bind fun t222 => (if t222 = true then (if bt211.2 = 0 then ((fringeref10_Same.f k bt211.1 (([2, 2, 2, 3, 3, 5] : List Int))).bind fun t226 => (some t226)) else (some false)) else (some false))) else (some false))) else (some false))) else (some false)) else (some false))) else (some false))) else (some false))) else (some false))) else (some false)))))))))) = some r := H
  have A3 := Aside0.mk A30
  clear A30
  replace H := Option.bind_eq_some_iff.mp H
  obtain ⟨⟨t199, t200⟩, A40, H⟩ := H
  replace H : ((ring_Root.f k 7 3).bind fun bt201 => ((ring_Root.f k 7 4).bind fun bt203 => ((ring_Generator.f k 17).bind fun bt205 => ((ring_Root.f k 17 16).bind fun bt207 => ((ring_Root.f k 17 4).bind fun bt209 => ((ring_Factors.f k 360).bind fun bt211 => ((fringelaw10_is.f t193 t194 5).bind fun t215 => (if t215 = true then ((fringelaw10_is.f t195 t196 3).bind fun t216 => (if t216 = true then ((fringelaw10_is.f t197 t198 3).bind fun t217 => (if t217 = true then ((fringelaw10_is.f t199 t200 6).bind fun t218 => (if t218 = true then ((fringelaw10_is.f bt201.1 bt201.2 2).bind fun t219 => (if t219 = true then (if bt203.2 = 6 then ((fringelaw10_is.f bt205.1 bt205.2 3).bind fun t220 => (if t220 = true then ((fringelaw10_is.f bt207.1 bt207.2 3).bind fun t221 => (if t221 = true then ((fringelaw10_is.f bt209.1 bt209.2 13).bind fun t222 => (if t222 = true then (if bt211.2 = 0 then ((fringeref10_Same.f k bt211.1 (([2, 2, 2, 3, 3, 5] : List Int))).bind fun t226 => (some t226)) else (some false)) else (some false))) else (some false))) else (some false))) else (some false)) else (some false))) else (some false))) else (some false))) else (some false))) else (some false))))))))) = some r := H
  have A4 := Aside0.mk A40
  clear A40
  replace H := Option.bind_eq_some_iff.mp H
  obtain ⟨⟨t201, t202⟩, A50, H⟩ := H
  replace H : ((ring_Root.f k 7 4).bind fun bt203 => ((ring_Generator.f k 17).bind fun bt205 => ((ring_Root.f k 17 16).bind fun bt207 => ((ring_Root.f k 17 4).bind fun bt209 => ((ring_Factors.f k 360).bind fun bt211 => ((fringelaw10_is.f t193 t194 5).bind fun t215 => (if t215 = true then ((fringelaw10_is.f t195 t196 3).bind fun t216 => (if t216 = true then ((fringelaw10_is.f t197 t198 3).bind fun t217 => (if t217 = true then ((fringelaw10_is.f t199 t200 6).bind fun t218 => (if t218 = true then ((fringelaw10_is.f t201 t202 2).bind fun t219 => (if t219 = true then (if bt203.2 = 6 then ((fringelaw10_is.f bt205.1 bt205.2 3).bind fun t220 => (if t220 = true then ((fringelaw10_is.f bt207.1 bt207.2 3).bind fun t221 => (if t221 = true then ((fringelaw10_is.f bt209.1 bt209.2 13).bind fun t222 => (if t222 = true then (if bt211.2 = 0 then ((fringeref10_Same.f k bt211.1 (([2, 2, 2, 3, 3, 5] : List Int))).bind fun t226 => (some t226)) else (some false)) else (some false))) else (some false))) else (some false))) else (some false)) else (some false))) else (some false))) else (some false))) else (some false))) else (some false)))))))) = some r := H
  have A5 := Aside0.mk A50
  clear A50
  replace H := Option.bind_eq_some_iff.mp H
  obtain ⟨⟨t203, t204⟩, A60, H⟩ := H
  replace H : ((ring_Generator.f k 17).bind fun bt205 => ((ring_Root.f k 17 16).bind fun bt207 => ((ring_Root.f k 17 4).bind fun bt209 => ((ring_Factors.f k 360).bind fun bt211 => ((fringelaw10_is.f t193 t194 5).bind fun t215 => (if t215 = true then ((fringelaw10_is.f t195 t196 3).bind fun t216 => (if t216 = true then ((fringelaw10_is.f t197 t198 3).bind fun t217 => (if t217 = true then ((fringelaw10_is.f t199 t200 6).bind fun t218 => (if t218 = true then ((fringelaw10_is.f t201 t202 2).bind fun t219 => (if t219 = true then (if t204 = 6 then ((fringelaw10_is.f bt205.1 bt205.2 3).bind fun t220 => (if t220 = true then ((fringelaw10_is.f bt207.1 bt207.2 3).bind fun t221 => (if t221 = true then ((fringelaw10_is.f bt209.1 bt209.2 13).bind fun t222 => (if t222 = true then (if bt211.2 = 0 then ((fringeref10_Same.f k bt211.1 (([2, 2, 2, 3, 3, 5] : List Int))).bind fun t226 => (some t226)) else (some false)) else (some false))) else (some false))) else (some false))) else (some false)) else (some false))) else (some false))) else (some false))) else (some false))) else (some false))))))) = some r := H
  have A6 := Aside0.mk A60
  clear A60
  replace H := Option.bind_eq_some_iff.mp H
  obtain ⟨⟨t205, t206⟩, A70, H⟩ := H
  replace H : ((ring_Root.f k 17 16).bind fun bt207 => ((ring_Root.f k 17 4).bind fun bt209 => ((ring_Factors.f k 360).bind fun bt211 => ((fringelaw10_is.f t193 t194 5).bind fun t215 => (if t215 = true then ((fringelaw10_is.f t195 t196 3).bind fun t216 => (if t216 = true then ((fringelaw10_is.f t197 t198 3).bind fun t217 => (if t217 = true then ((fringelaw10_is.f t199 t200 6).bind fun t218 => (if t218 = true then ((fringelaw10_is.f t201 t202 2).bind fun t219 => (if t219 = true then (if t204 = 6 then ((fringelaw10_is.f t205 t206 3).bind fun t220 => (if t220 = true then ((fringelaw10_is.f bt207.1 bt207.2 3).bind fun t221 => (if t221 = true then ((fringelaw10_is.f bt209.1 bt209.2 13).bind fun t222 => (if t222 = true then (if bt211.2 = 0 then ((fringeref10_Same.f k bt211.1 (([2, 2, 2, 3, 3, 5] : List Int))).bind fun t226 => (some t226)) else (some false)) else (some false))) else (some false))) else (some false))) else (some false)) else (some false))) else (some false))) else (some false))) else (some false))) else (some false)))))) = some r := H
  have A7 := Aside0.mk A70
  clear A70
  replace H := Option.bind_eq_some_iff.mp H
  obtain ⟨⟨t207, t208⟩, A80, H⟩ := H
  replace H : ((ring_Root.f k 17 4).bind fun bt209 => ((ring_Factors.f k 360).bind fun bt211 => ((fringelaw10_is.f t193 t194 5).bind fun t215 => (if t215 = true then ((fringelaw10_is.f t195 t196 3).bind fun t216 => (if t216 = true then ((fringelaw10_is.f t197 t198 3).bind fun t217 => (if t217 = true then ((fringelaw10_is.f t199 t200 6).bind fun t218 => (if t218 = true then ((fringelaw10_is.f t201 t202 2).bind fun t219 => (if t219 = true then (if t204 = 6 then ((fringelaw10_is.f t205 t206 3).bind fun t220 => (if t220 = true then ((fringelaw10_is.f t207 t208 3).bind fun t221 => (if t221 = true then ((fringelaw10_is.f bt209.1 bt209.2 13).bind fun t222 => (if t222 = true then (if bt211.2 = 0 then ((fringeref10_Same.f k bt211.1 (([2, 2, 2, 3, 3, 5] : List Int))).bind fun t226 => (some t226)) else (some false)) else (some false))) else (some false))) else (some false))) else (some false)) else (some false))) else (some false))) else (some false))) else (some false))) else (some false))))) = some r := H
  have A8 := Aside0.mk A80
  clear A80
  replace H := Option.bind_eq_some_iff.mp H
  obtain ⟨⟨t209, t210⟩, A90, H⟩ := H
  replace H : ((ring_Factors.f k 360).bind fun bt211 => ((fringelaw10_is.f t193 t194 5).bind fun t215 => (if t215 = true then ((fringelaw10_is.f t195 t196 3).bind fun t216 => (if t216 = true then ((fringelaw10_is.f t197 t198 3).bind fun t217 => (if t217 = true then ((fringelaw10_is.f t199 t200 6).bind fun t218 => (if t218 = true then ((fringelaw10_is.f t201 t202 2).bind fun t219 => (if t219 = true then (if t204 = 6 then ((fringelaw10_is.f t205 t206 3).bind fun t220 => (if t220 = true then ((fringelaw10_is.f t207 t208 3).bind fun t221 => (if t221 = true then ((fringelaw10_is.f t209 t210 13).bind fun t222 => (if t222 = true then (if bt211.2 = 0 then ((fringeref10_Same.f k bt211.1 (([2, 2, 2, 3, 3, 5] : List Int))).bind fun t226 => (some t226)) else (some false)) else (some false))) else (some false))) else (some false))) else (some false)) else (some false))) else (some false))) else (some false))) else (some false))) else (some false)))) = some r := H
  have A9 := Aside0.mk A90
  clear A90
  replace H := Option.bind_eq_some_iff.mp H
  obtain ⟨⟨t211, t212⟩, A100, H⟩ := H
  replace H : ((fringelaw10_is.f t193 t194 5).bind fun t215 => (if t215 = true then ((fringelaw10_is.f t195 t196 3).bind fun t216 => (if t216 = true then ((fringelaw10_is.f t197 t198 3).bind fun t217 => (if t217 = true then ((fringelaw10_is.f t199 t200 6).bind fun t218 => (if t218 = true then ((fringelaw10_is.f t201 t202 2).bind fun t219 => (if t219 = true then (if t204 = 6 then ((fringelaw10_is.f t205 t206 3).bind fun t220 => (if t220 = true then ((fringelaw10_is.f t207 t208 3).bind fun t221 => (if t221 = true then ((fringelaw10_is.f t209 t210 13).bind fun t222 => (if t222 = true then (if t212 = 0 then ((fringeref10_Same.f k t211 (([2, 2, 2, 3, 3, 5] : List Int))).bind fun t226 => (some t226)) else (some false)) else (some false))) else (some false))) else (some false))) else (some false)) else (some false))) else (some false))) else (some false))) else (some false))) else (some false))) = some r := H
  have A10 := Aside0.mk A100
  clear A100
  replace H := Option.bind_eq_some_iff.mp H
  obtain ⟨t215, A110, H⟩ := H
  replace H : (if t215 = true then ((fringelaw10_is.f t195 t196 3).bind fun t216 => (if t216 = true then ((fringelaw10_is.f t197 t198 3).bind fun t217 => (if t217 = true then ((fringelaw10_is.f t199 t200 6).bind fun t218 => (if t218 = true then ((fringelaw10_is.f t201 t202 2).bind fun t219 => (if t219 = true then (if t204 = 6 then ((fringelaw10_is.f t205 t206 3).bind fun t220 => (if t220 = true then ((fringelaw10_is.f t207 t208 3).bind fun t221 => (if t221 = true then ((fringelaw10_is.f t209 t210 13).bind fun t222 => (if t222 = true then (if t212 = 0 then ((fringeref10_Same.f k t211 (([2, 2, 2, 3, 3, 5] : List Int))).bind fun t226 => (some t226)) else (some false)) else (some false))) else (some false))) else (some false))) else (some false)) else (some false))) else (some false))) else (some false))) else (some false))) else (some false)) = some r := H
  have A11 := Aside0.mk A110
  clear A110
  by_cases c12 : t215 = true
  rotate_left
  · replace c12 := Bool.eq_false_iff.mpr c12
    subst c12
    have H1 : (some false) = some r := by rw [if_neg (show ¬ (false = true) by decide)] at H; exact H
    clear H
    have H := H1
    clear H1
    exact absurd ((Option.some.inj H).trans HRT.out) (by decide)
  subst c12
  have H1 : ((fringelaw10_is.f t195 t196 3).bind fun t216 => (if t216 = true then ((fringelaw10_is.f t197 t198 3).bind fun t217 => (if t217 = true then ((fringelaw10_is.f t199 t200 6).bind fun t218 => (if t218 = true then ((fringelaw10_is.f t201 t202 2).bind fun t219 => (if t219 = true then (if t204 = 6 then ((fringelaw10_is.f t205 t206 3).bind fun t220 => (if t220 = true then ((fringelaw10_is.f t207 t208 3).bind fun t221 => (if t221 = true then ((fringelaw10_is.f t209 t210 13).bind fun t222 => (if t222 = true then (if t212 = 0 then ((fringeref10_Same.f k t211 (([2, 2, 2, 3, 3, 5] : List Int))).bind fun t226 => (some t226)) else (some false)) else (some false))) else (some false))) else (some false))) else (some false)) else (some false))) else (some false))) else (some false))) else (some false))) = some r := by rw [if_pos rfl] at H; exact H
  clear H
  have H := H1
  clear H1
  replace H := Option.bind_eq_some_iff.mp H
  obtain ⟨t216, A130, H⟩ := H
  replace H : (if t216 = true then ((fringelaw10_is.f t197 t198 3).bind fun t217 => (if t217 = true then ((fringelaw10_is.f t199 t200 6).bind fun t218 => (if t218 = true then ((fringelaw10_is.f t201 t202 2).bind fun t219 => (if t219 = true then (if t204 = 6 then ((fringelaw10_is.f t205 t206 3).bind fun t220 => (if t220 = true then ((fringelaw10_is.f t207 t208 3).bind fun t221 => (if t221 = true then ((fringelaw10_is.f t209 t210 13).bind fun t222 => (if t222 = true then (if t212 = 0 then ((fringeref10_Same.f k t211 (([2, 2, 2, 3, 3, 5] : List Int))).bind fun t226 => (some t226)) else (some false)) else (some false))) else (some false))) else (some false))) else (some false)) else (some false))) else (some false))) else (some false))) else (some false)) = some r := H
  have A13 := Aside0.mk A130
  clear A130
  by_cases c14 : t216 = true
  rotate_left
  · replace c14 := Bool.eq_false_iff.mpr c14
    subst c14
    have H1 : (some false) = some r := by rw [if_neg (show ¬ (false = true) by decide)] at H; exact H
    clear H
    have H := H1
    clear H1
    exact absurd ((Option.some.inj H).trans HRT.out) (by decide)
  subst c14
  have H1 : ((fringelaw10_is.f t197 t198 3).bind fun t217 => (if t217 = true then ((fringelaw10_is.f t199 t200 6).bind fun t218 => (if t218 = true then ((fringelaw10_is.f t201 t202 2).bind fun t219 => (if t219 = true then (if t204 = 6 then ((fringelaw10_is.f t205 t206 3).bind fun t220 => (if t220 = true then ((fringelaw10_is.f t207 t208 3).bind fun t221 => (if t221 = true then ((fringelaw10_is.f t209 t210 13).bind fun t222 => (if t222 = true then (if t212 = 0 then ((fringeref10_Same.f k t211 (([2, 2, 2, 3, 3, 5] : List Int))).bind fun t226 => (some t226)) else (some false)) else (some false))) else (some false))) else (some false))) else (some false)) else (some false))) else (some false))) else (some false))) = some r := by rw [if_pos rfl] at H; exact H
  clear H
  have H := H1
  clear H1
  replace H := Option.bind_eq_some_iff.mp H
  obtain ⟨t217, A150, H⟩ := H
  replace H : (if t217 = true then ((fringelaw10_is.f t199 t200 6).bind fun t218 => (if t218 = true then ((fringelaw10_is.f t201 t202 2).bind fun t219 => (if t219 = true then (if t204 = 6 then ((fringelaw10_is.f t205 t206 3).bind fun t220 => (if t220 = true then ((fringelaw10_is.f t207 t208 3).bind fun t221 => (if t221 = true then ((fringelaw10_is.f t209 t210 13).bind fun t222 => (if t222 = true then (if t212 = 0 then ((fringeref10_Same.f k t211 (([2, 2, 2, 3, 3, 5] : List Int))).bind fun t226 => (some t226)) else (some false)) else (some false))) else (some false))) else (some false))) else (some false)) else (some false))) else (some false))) else (some false)) = some r := H
  have A15 := Aside0.mk A150
  clear A150
  by_cases c16 : t217 = true
  rotate_left
  · replace c16 := Bool.eq_false_iff.mpr c16
    subst c16
    have H1 : (some false) = some r := by rw [if_neg (show ¬ (false = true) by decide)] at H; exact H
    clear H
    have H := H1
    clear H1
    exact absurd ((Option.some.inj H).trans HRT.out) (by decide)
  subst c16
  have H1 : ((fringelaw10_is.f t199 t200 6).bind fun t218 => (if t218 = true then ((fringelaw10_is.f t201 t202 2).bind fun t219 => (if t219 = true then (if t204 = 6 then ((fringelaw10_is.f t205 t206 3).bind fun t220 => (if t220 = true then ((fringelaw10_is.f t207 t208 3).bind fun t221 => (if t221 = true then ((fringelaw10_is.f t209 t210 13).bind fun t222 => (if t222 = true then (if t212 = 0 then ((fringeref10_Same.f k t211 (([2, 2, 2, 3, 3, 5] : List Int))).bind fun t226 => (some t226)) else (some false)) else (some false))) else (some false))) else (some false))) else (some false)) else (some false))) else (some false))) = some r := by rw [if_pos rfl] at H; exact H
  clear H
  have H := H1
  clear H1
  replace H := Option.bind_eq_some_iff.mp H
  obtain ⟨t218, A170, H⟩ := H
  replace H : (if t218 = true then ((fringelaw10_is.f t201 t202 2).bind fun t219 => (if t219 = true then (if t204 = 6 then ((fringelaw10_is.f t205 t206 3).bind fun t220 => (if t220 = true then ((fringelaw10_is.f t207 t208 3).bind fun t221 => (if t221 = true then ((fringelaw10_is.f t209 t210 13).bind fun t222 => (if t222 = true then (if t212 = 0 then ((fringeref10_Same.f k t211 (([2, 2, 2, 3, 3, 5] : List Int))).bind fun t226 => (some t226)) else (some false)) else (some false))) else (some false))) else (some false))) else (some false)) else (some false))) else (some false)) = some r := H
  have A17 := Aside0.mk A170
  clear A170
  by_cases c18 : t218 = true
  rotate_left
  · replace c18 := Bool.eq_false_iff.mpr c18
    subst c18
    have H1 : (some false) = some r := by rw [if_neg (show ¬ (false = true) by decide)] at H; exact H
    clear H
    have H := H1
    clear H1
    exact absurd ((Option.some.inj H).trans HRT.out) (by decide)
  subst c18
  have H1 : ((fringelaw10_is.f t201 t202 2).bind fun t219 => (if t219 = true then (if t204 = 6 then ((fringelaw10_is.f t205 t206 3).bind fun t220 => (if t220 = true then ((fringelaw10_is.f t207 t208 3).bind fun t221 => (if t221 = true then ((fringelaw10_is.f t209 t210 13).bind fun t222 => (if t222 = true then (if t212 = 0 then ((fringeref10_Same.f k t211 (([2, 2, 2, 3, 3, 5] : List Int))).bind fun t226 => (some t226)) else (some false)) else (some false))) else (some false))) else (some false))) else (some false)) else (some false))) = some r := by rw [if_pos rfl] at H; exact H
  clear H
  have H := H1
  clear H1
  replace H := Option.bind_eq_some_iff.mp H
  obtain ⟨t219, A190, H⟩ := H
  replace H : (if t219 = true then (if t204 = 6 then ((fringelaw10_is.f t205 t206 3).bind fun t220 => (if t220 = true then ((fringelaw10_is.f t207 t208 3).bind fun t221 => (if t221 = true then ((fringelaw10_is.f t209 t210 13).bind fun t222 => (if t222 = true then (if t212 = 0 then ((fringeref10_Same.f k t211 (([2, 2, 2, 3, 3, 5] : List Int))).bind fun t226 => (some t226)) else (some false)) else (some false))) else (some false))) else (some false))) else (some false)) else (some false)) = some r := H
  have A19 := Aside0.mk A190
  clear A190
  by_cases c20 : t219 = true
  rotate_left
  · replace c20 := Bool.eq_false_iff.mpr c20
    subst c20
    have H1 : (some false) = some r := by rw [if_neg (show ¬ (false = true) by decide)] at H; exact H
    clear H
    have H := H1
    clear H1
    exact absurd ((Option.some.inj H).trans HRT.out) (by decide)
  subst c20
  have H1 : (if t204 = 6 then ((fringelaw10_is.f t205 t206 3).bind fun t220 => (if t220 = true then ((fringelaw10_is.f t207 t208 3).bind fun t221 => (if t221 = true then ((fringelaw10_is.f t209 t210 13).bind fun t222 => (if t222 = true then (if t212 = 0 then ((fringeref10_Same.f k t211 (([2, 2, 2, 3, 3, 5] : List Int))).bind fun t226 => (some t226)) else (some false)) else (some false))) else (some false))) else (some false))) else (some false)) = some r := by rw [if_pos rfl] at H; exact H
  clear H
  have H := H1
  clear H1
  by_cases c21 : t204 = 6
  rotate_left
  · rw [if_neg c21] at H
    have c21b0 : (t204 == 6) = false := beq_eq_false_iff_ne.mpr c21
    have c21b1 : (t204 != 6) = true := bne_iff_ne.mpr c21
    exact absurd ((Option.some.inj H).trans HRT.out) (by decide)
  rw [if_pos c21] at H
  have c21b0 : (t204 == 6) = true := beq_iff_eq.mpr c21
  have c21b1 : (t204 != 6) = false := bne_eq_false_iff_eq.mpr c21
  clear c21
  replace H := Option.bind_eq_some_iff.mp H
  obtain ⟨t220, A220, H⟩ := H
  replace H : (if t220 = true then ((fringelaw10_is.f t207 t208 3).bind fun t221 => (if t221 = true then ((fringelaw10_is.f t209 t210 13).bind fun t222 => (if t222 = true then (if t212 = 0 then ((fringeref10_Same.f k t211 (([2, 2, 2, 3, 3, 5] : List Int))).bind fun t226 => (some t226)) else (some false)) else (some false))) else (some false))) else (some false)) = some r := H
  have A22 := Aside0.mk A220
  clear A220
  by_cases c23 : t220 = true
  rotate_left
  · replace c23 := Bool.eq_false_iff.mpr c23
    subst c23
    have H1 : (some false) = some r := by rw [if_neg (show ¬ (false = true) by decide)] at H; exact H
    clear H
    have H := H1
    clear H1
    exact absurd ((Option.some.inj H).trans HRT.out) (by decide)
  subst c23
  have H1 : ((fringelaw10_is.f t207 t208 3).bind fun t221 => (if t221 = true then ((fringelaw10_is.f t209 t210 13).bind fun t222 => (if t222 = true then (if t212 = 0 then ((fringeref10_Same.f k t211 (([2, 2, 2, 3, 3, 5] : List Int))).bind fun t226 => (some t226)) else (some false)) else (some false))) else (some false))) = some r := by rw [if_pos rfl] at H; exact H
  clear H
  have H := H1
  clear H1
  replace H := Option.bind_eq_some_iff.mp H
  obtain ⟨t221, A240, H⟩ := H
  replace H : (if t221 = true then ((fringelaw10_is.f t209 t210 13).bind fun t222 => (if t222 = true then (if t212 = 0 then ((fringeref10_Same.f k t211 (([2, 2, 2, 3, 3, 5] : List Int))).bind fun t226 => (some t226)) else (some false)) else (some false))) else (some false)) = some r := H
  have A24 := Aside0.mk A240
  clear A240
  by_cases c25 : t221 = true
  rotate_left
  · replace c25 := Bool.eq_false_iff.mpr c25
    subst c25
    have H1 : (some false) = some r := by rw [if_neg (show ¬ (false = true) by decide)] at H; exact H
    clear H
    have H := H1
    clear H1
    exact absurd ((Option.some.inj H).trans HRT.out) (by decide)
  subst c25
  have H1 : ((fringelaw10_is.f t209 t210 13).bind fun t222 => (if t222 = true then (if t212 = 0 then ((fringeref10_Same.f k t211 (([2, 2, 2, 3, 3, 5] : List Int))).bind fun t226 => (some t226)) else (some false)) else (some false))) = some r := by rw [if_pos rfl] at H; exact H
  clear H
  have H := H1
  clear H1
  replace H := Option.bind_eq_some_iff.mp H
  obtain ⟨t222, A260, H⟩ := H
  replace H : (if t222 = true then (if t212 = 0 then ((fringeref10_Same.f k t211 (([2, 2, 2, 3, 3, 5] : List Int))).bind fun t226 => (some t226)) else (some false)) else (some false)) = some r := H
  have A26 := Aside0.mk A260
  clear A260
  by_cases c27 : t222 = true
  rotate_left
  · replace c27 := Bool.eq_false_iff.mpr c27
    subst c27
    have H1 : (some false) = some r := by rw [if_neg (show ¬ (false = true) by decide)] at H; exact H
    clear H
    have H := H1
    clear H1
    exact absurd ((Option.some.inj H).trans HRT.out) (by decide)
  subst c27
  have H1 : (if t212 = 0 then ((fringeref10_Same.f k t211 (([2, 2, 2, 3, 3, 5] : List Int))).bind fun t226 => (some t226)) else (some false)) = some r := by rw [if_pos rfl] at H; exact H
  clear H
  have H := H1
  clear H1
  by_cases c28 : t212 = 0
  rotate_left
  · rw [if_neg c28] at H
    have c28b0 : (t212 == 0) = false := beq_eq_false_iff_ne.mpr c28
    have c28b1 : (t212 != 0) = true := bne_iff_ne.mpr c28
    exact absurd ((Option.some.inj H).trans HRT.out) (by decide)
  rw [if_pos c28] at H
  have c28b0 : (t212 == 0) = true := beq_iff_eq.mpr c28
  have c28b1 : (t212 != 0) = false := bne_eq_false_iff_eq.mpr c28
  clear c28
  obtain ⟨y223, hy223⟩ : ∃ y_ : List Int, y_ = (([2, 2, 2, 3, 3, 5] : List Int)) := ⟨_, rfl⟩
  replace H : ((fringeref10_Same.f k t211 y223).bind fun t226 => (some t226)) = some r := by first | (rw [hy223]; with_reducible exact H) | (have H2_ := (Option.bind_some _ _).symm.trans H; rw [hy223]; with_reducible exact H2_) | (have H2_ := (Option.bind_some _ _).symm.trans H; with_reducible exact H2_) | with_reducible exact H | (rw [hy223]; exact H) | exact H
  have Ny223 := Aside0.mk hy223
  clear hy223
  replace H := Option.bind_eq_some_iff.mp H
  obtain ⟨t226, A290, H⟩ := H
  replace H : (some t226) = some r := H
  have A29 := Aside0.mk A290
  clear A290
  obtain rfl := Option.some.inj H
  go_enter Try.func26, Try.ntmps26
  go_wp2_with (first | ((with_reducible refine gate_callee (f := 12) rfl ?_); refine goesL_ (some 22) rfl rfl Try.func12 (by kernel_rfl) rfl #[.int .i64 7, .int .i64 3] rfl (by (try simp only [List.map_toArray, List.map_cons, List.map_nil]); first | done | rfl | (simp only [List.length_drop, List.length_take]; rfl)) ?_; (with_reducible refine (ring_Inv.calls k 7 3 t193 t194 _ A1.out).mono ?_); rintro e w' ⟨rfl, ⟨nd, rfl⟩⟩; refine ⟨_, rfl, ?_⟩) | ((with_reducible refine gate_callee (f := 18) rfl ?_); refine goesL_ (some 26) rfl rfl Try.func18 (by kernel_rfl) rfl #[.int .i64 7, .int .i64 2] rfl (by (try simp only [List.map_toArray, List.map_cons, List.map_nil]); first | done | rfl | (simp only [List.length_drop, List.length_take]; rfl)) ?_; (with_reducible refine (ring_Order.calls k 7 2 t195 t196 _ A2.out).mono ?_); rintro e w30 ⟨rfl, hb⟩; refine ⟨_, rfl, ?_⟩; have n0_ := Aside0.mk (below_step (by repeat (first | (with_reducible first | exact HB.out | apply below_alloc | apply pw_below_drewN | apply below_drew1) | exact HB.out)) hb); clear HB; have HB := n0_; clear n0_; (try clear hb); (try clear hb2); (try clear hk); (try clear hi)) | ((with_reducible refine gate_callee (f := 20) rfl ?_); refine goesL_ (some 30) rfl rfl Try.func20 (by kernel_rfl) rfl #[.int .i64 7] rfl (by (try simp only [List.map_toArray, List.map_cons, List.map_nil]); first | done | rfl | (simp only [List.length_drop, List.length_take]; rfl)) ?_; (with_reducible refine (ring_Generator.calls k 7 t197 t198 _ A3.out).mono ?_); rintro e w31 ⟨rfl, hb⟩; refine ⟨_, rfl, ?_⟩; have n0_ := Aside0.mk (below_step (by repeat (first | (with_reducible first | exact HB.out | apply below_alloc | apply pw_below_drewN | apply below_drew1) | exact HB.out)) hb); clear HB; have HB := n0_; clear n0_; (try clear hb); (try clear hb2); (try clear hk); (try clear hi)) | ((with_reducible refine gate_callee (f := 22) rfl ?_); refine goesL_ (some 34) rfl rfl Try.func22 (by kernel_rfl) rfl #[.int .i64 7, .int .i64 2] rfl (by (try simp only [List.map_toArray, List.map_cons, List.map_nil]); first | done | rfl | (simp only [List.length_drop, List.length_take]; rfl)) ?_; (with_reducible refine (ring_Root.calls k 7 2 t199 t200 _ A4.out).mono ?_); rintro e w32 ⟨rfl, hb⟩; refine ⟨_, rfl, ?_⟩; have n0_ := Aside0.mk (below_step (by repeat (first | (with_reducible first | exact HB.out | apply below_alloc | apply pw_below_drewN | apply below_drew1) | exact HB.out)) hb); clear HB; have HB := n0_; clear n0_; (try clear hb); (try clear hb2); (try clear hk); (try clear hi)) | ((with_reducible refine gate_callee (f := 22) rfl ?_); refine goesL_ (some 38) rfl rfl Try.func22 (by kernel_rfl) rfl #[.int .i64 7, .int .i64 3] rfl (by (try simp only [List.map_toArray, List.map_cons, List.map_nil]); first | done | rfl | (simp only [List.length_drop, List.length_take]; rfl)) ?_; (with_reducible refine (ring_Root.calls k 7 3 t201 t202 _ A5.out).mono ?_); rintro e w33 ⟨rfl, hb⟩; refine ⟨_, rfl, ?_⟩; have n0_ := Aside0.mk (below_step (by repeat (first | (with_reducible first | exact HB.out | apply below_alloc | apply pw_below_drewN | apply below_drew1) | exact HB.out)) hb); clear HB; have HB := n0_; clear n0_; (try clear hb); (try clear hb2); (try clear hk); (try clear hi)) | ((with_reducible refine gate_callee (f := 22) rfl ?_); refine goesL_ (some 42) rfl rfl Try.func22 (by kernel_rfl) rfl #[.int .i64 7, .int .i64 4] rfl (by (try simp only [List.map_toArray, List.map_cons, List.map_nil]); first | done | rfl | (simp only [List.length_drop, List.length_take]; rfl)) ?_; (with_reducible refine (ring_Root.calls k 7 4 t203 t204 _ A6.out).mono ?_); rintro e w34 ⟨rfl, hb⟩; refine ⟨_, rfl, ?_⟩; have n0_ := Aside0.mk (below_step (by repeat (first | (with_reducible first | exact HB.out | apply below_alloc | apply pw_below_drewN | apply below_drew1) | exact HB.out)) hb); clear HB; have HB := n0_; clear n0_; (try clear hb); (try clear hb2); (try clear hk); (try clear hi)) | ((with_reducible refine gate_callee (f := 20) rfl ?_); refine goesL_ (some 46) rfl rfl Try.func20 (by kernel_rfl) rfl #[.int .i64 17] rfl (by (try simp only [List.map_toArray, List.map_cons, List.map_nil]); first | done | rfl | (simp only [List.length_drop, List.length_take]; rfl)) ?_; (with_reducible refine (ring_Generator.calls k 17 t205 t206 _ A7.out).mono ?_); rintro e w35 ⟨rfl, hb⟩; refine ⟨_, rfl, ?_⟩; have n0_ := Aside0.mk (below_step (by repeat (first | (with_reducible first | exact HB.out | apply below_alloc | apply pw_below_drewN | apply below_drew1) | exact HB.out)) hb); clear HB; have HB := n0_; clear n0_; (try clear hb); (try clear hb2); (try clear hk); (try clear hi)) | ((with_reducible refine gate_callee (f := 22) rfl ?_); refine goesL_ (some 50) rfl rfl Try.func22 (by kernel_rfl) rfl #[.int .i64 17, .int .i64 16] rfl (by (try simp only [List.map_toArray, List.map_cons, List.map_nil]); first | done | rfl | (simp only [List.length_drop, List.length_take]; rfl)) ?_; (with_reducible refine (ring_Root.calls k 17 16 t207 t208 _ A8.out).mono ?_); rintro e w36 ⟨rfl, hb⟩; refine ⟨_, rfl, ?_⟩; have n0_ := Aside0.mk (below_step (by repeat (first | (with_reducible first | exact HB.out | apply below_alloc | apply pw_below_drewN | apply below_drew1) | exact HB.out)) hb); clear HB; have HB := n0_; clear n0_; (try clear hb); (try clear hb2); (try clear hk); (try clear hi)) | ((with_reducible refine gate_callee (f := 22) rfl ?_); refine goesL_ (some 54) rfl rfl Try.func22 (by kernel_rfl) rfl #[.int .i64 17, .int .i64 4] rfl (by (try simp only [List.map_toArray, List.map_cons, List.map_nil]); first | done | rfl | (simp only [List.length_drop, List.length_take]; rfl)) ?_; (with_reducible refine (ring_Root.calls k 17 4 t209 t210 _ A9.out).mono ?_); rintro e w37 ⟨rfl, hb⟩; refine ⟨_, rfl, ?_⟩; have n0_ := Aside0.mk (below_step (by repeat (first | (with_reducible first | exact HB.out | apply below_alloc | apply pw_below_drewN | apply below_drew1) | exact HB.out)) hb); clear HB; have HB := n0_; clear n0_; (try clear hb); (try clear hb2); (try clear hk); (try clear hi)) | ((with_reducible refine gate_callee (f := 16) rfl ?_); refine goesL_ (some 58) rfl rfl Try.func16 (by kernel_rfl) rfl #[.int .i64 360] rfl (by (try simp only [List.map_toArray, List.map_cons, List.map_nil]); first | done | rfl | (simp only [List.length_drop, List.length_take]; rfl)) ?_; (with_reducible refine (ring_Factors.calls k 360 t211 t212 _ A10.out).mono ?_); rintro e w38 ⟨v213, rfl, ho0, hb⟩; refine ⟨_, rfl, ?_⟩; have n0_ := Aside0.mk (Kd.R_lower ho0 (below_size (by repeat (first | (with_reducible first | exact HB.out | apply below_alloc | apply pw_below_drewN | apply below_drew1) | exact HB.out)))); have n1_ := Aside0.mk (below_step (by repeat (first | (with_reducible first | exact HB.out | apply below_alloc | apply pw_below_drewN | apply below_drew1) | exact HB.out)) hb); clear HB; have HO214 := n0_; have HB := n1_; clear n0_ n1_; (try clear hb); (try clear hb2); (try clear hk); (try clear hi); (try clear ho0)) | ((with_reducible refine gate_callee (f := 28) rfl ?_); refine goesL_ (some 63) rfl rfl Try.func28 (by kernel_rfl) rfl #[.int .i64 t193, .int .i64 t194, .int .i64 5] rfl (by (try simp only [List.map_toArray, List.map_cons, List.map_nil]); first | done | rfl | (simp only [List.length_drop, List.length_take]; rfl)) ?_; (with_reducible refine (fringelaw10_is.calls t193 t194 5 true _ A11.out).mono ?_); rintro e w' ⟨rfl, ⟨nd, rfl⟩⟩; refine ⟨_, rfl, ?_⟩) | (go_at_call 28; (with_reducible refine (fringelaw10_is.calls t195 t196 3 true _ A13.out).mono ?_); rintro e w' ⟨rfl, ⟨nd, rfl⟩⟩) | (go_at_call 28; (with_reducible refine (fringelaw10_is.calls t197 t198 3 true _ A15.out).mono ?_); rintro e w' ⟨rfl, ⟨nd, rfl⟩⟩) | (go_at_call 28; (with_reducible refine (fringelaw10_is.calls t199 t200 6 true _ A17.out).mono ?_); rintro e w' ⟨rfl, ⟨nd, rfl⟩⟩) | (go_at_call 28; (with_reducible refine (fringelaw10_is.calls t201 t202 2 true _ A19.out).mono ?_); rintro e w' ⟨rfl, ⟨nd, rfl⟩⟩) | (go_at_call 28; (with_reducible refine (fringelaw10_is.calls t205 t206 3 true _ A22.out).mono ?_); rintro e w' ⟨rfl, ⟨nd, rfl⟩⟩) | (go_at_call 28; (with_reducible refine (fringelaw10_is.calls t207 t208 3 true _ A24.out).mono ?_); rintro e w' ⟨rfl, ⟨nd, rfl⟩⟩) | (go_at_call 28; (with_reducible refine (fringelaw10_is.calls t209 t210 13 true _ A26.out).mono ?_); rintro e w' ⟨rfl, ⟨nd, rfl⟩⟩) | ((with_reducible refine gate_dst (N := 109) rfl ?_); (try (refine gate_guard (by rfl) ?_; dsimp only)); refine Kd.R_lit (Kd.int .i64) _ 2 ?hg (N := 109) ?hd (xs := ([2, 2, 2, 3, 3, 5] : List Int)) (inner := [.int .i64 2, .int .i64 2, .int .i64 2, .int .i64 3, .int .i64 3, .int .i64 5]) (ok := fun _ => True) (okp := fun _ => True) ?hr ?hp (fun _ hk => hk) trivial (Below.refl _ _) (Nat.le_refl _) (by simp) ?_; (case hd => rfl); (case hg => rfl); (case hr => first | (go_simp; done) | (go_simp; rfl)); (case hp => exact (Reps.one (show Kd.M (Kd.int .i64) _ _ _ 2 [.int .i64 2] from rfl) (Reps.one (show Kd.M (Kd.int .i64) _ _ _ 2 [.int .i64 2] from rfl) (Reps.one (show Kd.M (Kd.int .i64) _ _ _ 2 [.int .i64 2] from rfl) (Reps.one (show Kd.M (Kd.int .i64) _ _ _ 3 [.int .i64 3] from rfl) (Reps.one (show Kd.M (Kd.int .i64) _ _ _ 3 [.int .i64 3] from rfl) (Reps.one (show Kd.M (Kd.int .i64) _ _ _ 5 [.int .i64 5] from rfl) (Reps.none _ _)))))))); intro v224 w39 ho40 hb hg_ hnew_; clear hg_ hnew_; (first | rw [← Ny223.out] at ho40 | (simp only [Int.reduceToNat] at ho40; rw [← Ny223.out] at ho40)); have n0_ := Aside0.mk (Kd.R_elder' (by (with_reducible repeat (first | apply Kd.R_alloc | apply Kd.R_drewN | apply Kd.R_drew)); exact HO214.out) (Kd.R_base ho40) hb); have n1_ := Aside0.mk (Kd.R_lower (Kd.R_new' ho40 (Kd.R_lt (by (with_reducible repeat (first | apply Kd.R_alloc | apply Kd.R_drewN | apply Kd.R_drew)); exact HO214.out))) (below_size (by repeat (first | (with_reducible first | exact HB.out | apply below_alloc | apply pw_below_drewN | apply below_drew1) | exact HB.out)))); have n2_ := Aside0.mk (below_step (by repeat (first | (with_reducible first | exact HB.out | apply below_alloc | apply pw_below_drewN | apply below_drew1) | exact HB.out)) hb); clear HO214; clear HB; have HO214 := n0_; have HO225 := n1_; have HB := n2_; clear n0_ n1_ n2_; clear hb ho40; obtain ⟨Ao41, co41, eo41⟩ := Kd.R_slice HO214.out; subst eo41; obtain ⟨Ao42, co42, eo42⟩ := Kd.R_slice HO225.out; subst eo42) | (go_at_call 24; (with_reducible refine (fringeref10_Same.calls k _ _ t211 _ _ y223 t226 _ ?side1 ?side2 ?side3 ?side4 A29.out).mono ?_); (case side1 => repeat (first | exact (Kd.R_reads' HO214.out).2.2 | (with_reducible refine Kd.C_alloc ?_ _) | (with_reducible refine Kd.C_drewN ?_ _) | (with_reducible refine Kd.C_drew ?_))); (case side2 => exact (Kd.R_reads' HO214.out).2.1); (case side3 => repeat (first | exact (Kd.R_reads' HO225.out).2.2 | (with_reducible refine Kd.C_alloc ?_ _) | (with_reducible refine Kd.C_drewN ?_ _) | (with_reducible refine Kd.C_drew ?_))); (case side4 => exact (Kd.R_reads' HO225.out).2.1); rintro e w' ⟨rfl, ⟨nd, rfl⟩⟩))
  go_ret
  exact ⟨by first | rfl | (simp [errW_none, errW_some] <;> rfl) | (simp [*, errW_none, errW_some] <;> rfl), by repeat (first | (with_reducible first | exact HB.out | apply below_alloc | apply pw_below_drewN | apply below_drew1) | exact HB.out)⟩
set_option maxRecDepth 1000000 in
theorem fringelaw10_alive_c.eval : fringelaw10_alive_c.f 60 = some true := by decide +kernel
def fringelaw10_alive.f : Option (Bool) := some true
theorem fringelaw10_alive.calls (r : Bool) (w : World) (h : fringelaw10_alive.f = some r) :
    Calls Try.prog 26 #[] w fun e w' => e = .returned (.bool r) ∧ Below w.heap.size w w' := by
  have hr := Option.some.inj h
  subst hr
  exact fringelaw10_alive_c.calls 60 true w rfl fringelaw10_alive_c.eval

end Go.Proofs.Ytehbmpdmdfiagaa.PAll
