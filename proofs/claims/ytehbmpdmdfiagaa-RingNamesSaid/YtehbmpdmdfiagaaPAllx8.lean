-- Written by a program of this session, after the kit's print
import Derived.Test.YtehbmpdmdfiagaaPAllx0
import Derived.Test.YtehbmpdmdfiagaaPAllx1
import Derived.Test.YtehbmpdmdfiagaaPAllx2
import Derived.Test.YtehbmpdmdfiagaaPAllx3
import Derived.Test.YtehbmpdmdfiagaaPAllx4
namespace Go.Proofs.Ytehbmpdmdfiagaa.PAll
open Go.RowKit Go.Proofs.YtehbmpdmdfiagaaW.PrintWords Go.Proofs.YtehbmpdmdfiagaaW.PrintLast Go.Proofs.YtehbmpdmdfiagaaW.PrintMore
attribute [local go_sem] max2_int min2_int max_two min_two max_three min_three max_four min_four   -- for this text's walks alone
set_option linter.unusedVariables false
set_option linter.unusedSimpArgs false

/-! ### fringelaw10_RingNames: function 8 -/
def fringelaw10_RingNames.f (k : Nat)  : Option (Bool) := (ring_Check.f k 2).bind fun t286 => (if t286 = 0 then ((ring_Check.f k 3).bind fun t287 => (if t287 = 0 then ((ring_Check.f k 1).bind fun t288 => (if t288 = 2 then ((ring_Check.f k 0).bind fun t289 => (if t289 = 2 then ((ring_Check.f k (-7)).bind fun t290 => (if t290 = 2 then ((ring_Check.f k 9).bind fun t291 => (if t291 = 2 then ((ring_Check.f k 1999999973).bind fun t292 => (if t292 = 0 then ((ring_Check.f k 2000000011).bind fun t293 => (if t293 = 2 then ((ring_Check.f k 9223372036854775807).bind fun t294 => (if t294 = 2 then ((ring_Check.f k 1000000007).bind fun t295 => ((ring_Generator.f k 2).bind fun bt3348 => ((ring_Inv.f k 2 1).bind fun bt3350 => ((ring_Order.f k 2 1).bind fun bt3352 => ((ring_Root.f k 2 1).bind fun bt3354 => ((ring_Pow.f k 5 0 0).bind fun bt3356 => ((ring_Pow.f k 5 0 3).bind fun bt3358 => ((ring_Pow.f k 1000000007 2 1000000006).bind fun bt3360 => ((fringelaw10_is.f bt3348.1 bt3348.2 1).bind fun t3362 => (if t3362 = true then ((fringelaw10_is.f bt3350.1 bt3350.2 1).bind fun t3363 => (if t3363 = true then ((fringelaw10_is.f bt3352.1 bt3352.2 1).bind fun t3364 => (if t3364 = true then ((fringelaw10_is.f bt3354.1 bt3354.2 1).bind fun t3365 => (if t3365 = true then ((fringelaw10_is.f bt3356.1 bt3356.2 1).bind fun t3366 => (if t3366 = true then ((fringelaw10_is.f bt3358.1 bt3358.2 0).bind fun t3367 => (if t3367 = true then ((fringelaw10_is.f bt3360.1 bt3360.2 1).bind fun t3368 => ((ring_Pow.f k 5 5 1).bind fun bt3650 => ((ring_Pow.f k 5 (-1) 1).bind fun bt3652 => ((ring_Pow.f k 5 1 (-1)).bind fun bt3654 => ((ring_Pow.f k 4 9 (-1)).bind fun bt3656 => ((ring_Inv.f k 5 0).bind fun bt3658 => ((ring_Order.f k 5 0).bind fun bt3660 => ((ring_Order.f k 5 5).bind fun bt3662 => ((ring_Root.f k 5 0).bind fun bt3664 => ((ring_Root.f k 5 3).bind fun bt3666 => ((ring_Root.f k 6 0).bind fun bt3668 => ((ring_Factors.f k 1).bind fun bt3670 => ((ring_Factors.f k 0).bind fun bt3674 => ((ring_Factors.f k 2000000001).bind fun bt3678 => ((ring_Factors.f k 1999999973).bind fun bt3682 => (if bt3650.2 = 8 then (if bt3652.2 = 8 then (if bt3654.2 = 2 then (if bt3656.2 = 2 then (if bt3658.2 = 18 then (if bt3660.2 = 18 then (if bt3662.2 = 8 then (if bt3664.2 = 2 then (if bt3666.2 = 6 then (if bt3668.2 = 2 then (if bt3670.2 = 0 then (if (bt3670.1.length : Int) = 0 then (if bt3674.2 = 2 then (if bt3678.2 = 2 then (if bt3682.2 = 0 then ((fringeref10_Same.f k bt3682.1 (([1999999973] : List Int))).bind fun t3689 => (if t295 = 0 then (if t3368 = true then (if t3689 = true then ((fringelaw10_alive.f).bind fun t3690 => (some t3690)) else (some false)) else (some false)) else (some false))) else (some false)) else (some false)) else (some false)) else (some false)) else (some false)) else (some false)) else (some false)) else (some false)) else (some false)) else (some false)) else (some false)) else (some false)) else (some false)) else (some false)) else (some false))))))))))))))))) else (some false))) else (some false))) else (some false))) else (some false))) else (some false))) else (some false))))))))))) else (some false))) else (some false))) else (some false))) else (some false))) else (some false))) else (some false))) else (some false))) else (some false))) else (some false))
theorem fringelaw10_RingNames.mono : ∀ k, LeO (fringelaw10_RingNames.f k ) (fringelaw10_RingNames.f (k + 1) ) := by
  intro  k
  unfold fringelaw10_RingNames.f
  repeat' first
      | (with_reducible exact fringeref10_Same.mono _ _ _)
      | (with_reducible exact ring_Check.mono _ _)
      | (with_reducible exact ring_Factors.mono _ _)
      | (with_reducible exact ring_Generator.mono _ _)
      | (with_reducible exact ring_Inv.mono _ _ _)
      | (with_reducible exact ring_Order.mono _ _ _)
      | (with_reducible exact ring_Pow.mono _ _ _ _)
      | (with_reducible exact ring_Root.mono _ _ _)
      | (with_reducible exact LeO.refl _)
      | (with_reducible exact LeO.none _)
      | (with_reducible refine LeO.ite ?_ ?_)
      | (with_reducible refine LeO.bind ?_ (fun _ => ?_))
      | exact fringeref10_Same.mono _ _ _
      | exact ring_Check.mono _ _
      | exact ring_Factors.mono _ _
      | exact ring_Generator.mono _ _
      | exact ring_Inv.mono _ _ _
      | exact ring_Order.mono _ _ _
      | exact ring_Pow.mono _ _ _ _
      | exact ring_Root.mono _ _ _
      | exact LeO.none _
      | refine LeO.ite ?_ ?_
      | refine LeO.bind ?_ (fun _ => ?_)
set_option maxHeartbeats 8000000 in
set_option maxRecDepth 100000 in
theorem fringelaw10_RingNames.calls (k : Nat)  (r : Bool) (w : World) (hrt : r = true) (h : fringelaw10_RingNames.f k  = some r) :
    Calls Try.prog 8 #[] w fun e w' => e = .returned (.bool r) ∧ Below w.heap.size w w' := by
  have HB := Aside0.mk (Below.refl w.heap.size w)
  have HRT := Aside0.mk hrt
  clear hrt
  have H : ((ring_Check.f k 2).bind fun t286 => (if t286 = 0 then ((ring_Check.f k 3).bind fun t287 => (if t287 = 0 then ((ring_Check.f k 1).bind fun t288 => (if t288 = 2 then ((ring_Check.f k 0).bind fun t289 => (if t289 = 2 then ((ring_Check.f k (-7)).bind fun t290 => (if t290 = 2 then ((ring_Check.f k 9).bind fun t291 => (if t291 = 2 then ((ring_Check.f k 1999999973).bind fun t292 => (if t292 = 0 then ((ring_Check.f k 2000000011).bind fun t293 => (if t293 = 2 then ((ring_Check.f k 9223372036854775807).bind fun t294 => (if t294 = 2 then ((ring_Check.f k 1000000007).bind fun t295 => ((ring_Generator.f k 2).bind fun bt3348 => ((ring_Inv.f k 2 1).bind fun bt3350 => ((ring_Order.f k 2 1).bind fun bt3352 => ((ring_Root.f k 2 1).bind fun bt3354 => ((ring_Pow.f k 5 0 0).bind fun bt3356 => ((ring_Pow.f k 5 0 3).bind fun bt3358 => ((ring_Pow.f k 1000000007 2 1000000006).bind fun bt3360 => ((fringelaw10_is.f bt3348.1 bt3348.2 1).bind fun t3362 => (if t3362 = true then ((fringelaw10_is.f bt3350.1 bt3350.2 1).bind fun t3363 => (if t3363 = true then ((fringelaw10_is.f bt3352.1 bt3352.2 1).bind fun t3364 => (if t3364 = true then ((fringelaw10_is.f bt3354.1 bt3354.2 1).bind fun t3365 => (if t3365 = true then ((fringelaw10_is.f bt3356.1 bt3356.2 1).bind fun t3366 => (if t3366 = true then ((fringelaw10_is.f bt3358.1 bt3358.2 0).bind fun t3367 => (if t3367 = true then ((fringelaw10_is.f bt3360.1 bt3360.2 1).bind fun t3368 => ((ring_Pow.f k 5 5 1).bind fun bt3650 => ((ring_Pow.f k 5 (-1) 1).bind fun bt3652 => ((ring_Pow.f k 5 1 (-1)).bind fun bt3654 => ((ring_Pow.f k 4 9 (-1)).bind fun bt3656 => ((ring_Inv.f k 5 0).bind fun bt3658 => ((ring_Order.f k 5 0).bind fun bt3660 => ((ring_Order.f k 5 5).bind fun bt3662 => ((ring_Root.f k 5 0).bind fun bt3664 => ((ring_Root.f k 5 3).bind fun bt3666 => ((ring_Root.f k 6 0).bind fun bt3668 => ((ring_Factors.f k 1).bind fun bt3670 => ((ring_Factors.f k 0).bind fun bt3674 => ((ring_Factors.f k 2000000001).bind fun bt3678 => ((ring_Factors.f k 1999999973).bind fun bt3682 => (if bt3650.2 = 8 then (if bt3652.2 = 8 then (if bt3654.2 = 2 then (if bt3656.2 = 2 then (if bt3658.2 = 18 then (if bt3660.2 = 18 then (if bt3662.2 = 8 then (if bt3664.2 = 2 then (if bt3666.2 = 6 then (if bt3668.2 = 2 then (if bt3670.2 = 0 then (if (bt3670.1.length : Int) = 0 then (if bt3674.2 = 2 then (if bt3678.2 = 2 then (if bt3682.2 = 0 then ((fringeref10_Same.f k bt3682.1 (([1999999973] : List Int))).bind fun t3689 => (if t295 = 0 then (if t3368 = true then (if t3689 = true then ((fringelaw10_alive.f).bind fun t3690 => (some t3690)) else (some false)) else (some false)) else (some false))) else (some false)) else (some false)) else (some false)) else (some false)) else (some false)) else (some false)) else (some false)) else (some false)) else (some false)) else (some false)) else (some false)) else (some false)) else (some false)) else (some false)) else (some false))))))))))))))))) else (some false))) else (some false))) else (some false))) else (some false))) else (some false))) else (some false))))))))))) else (some false))) else (some false))) else (some false))) else (some false))) else (some false))) else (some false))) else (some false))) else (some false))) else (some false))) = some r := h
  clear h
  replace H := Option.bind_eq_some_iff.mp H
  obtain ⟨t286, A10, H⟩ := H
  (try dsimp only at H)
  have A1 := Aside0.mk A10
  clear A10
  by_cases c2 : t286 = 0
  rotate_left
  · rw [if_neg c2] at H
    have c2b0 : (t286 == 0) = false := beq_eq_false_iff_ne.mpr c2
    have c2b1 : (t286 != 0) = true := bne_iff_ne.mpr c2
    exact absurd ((Option.some.inj H).trans HRT.out) (by decide)

  rw [if_pos c2] at H
  have c2b0 : (t286 == 0) = true := beq_iff_eq.mpr c2
  have c2b1 : (t286 != 0) = false := bne_eq_false_iff_eq.mpr c2
  clear c2
  replace H := Option.bind_eq_some_iff.mp H
  obtain ⟨t287, A30, H⟩ := H
  (try dsimp only at H)
  have A3 := Aside0.mk A30
  clear A30
  by_cases c4 : t287 = 0
  rotate_left
  · rw [if_neg c4] at H
    have c4b0 : (t287 == 0) = false := beq_eq_false_iff_ne.mpr c4
    have c4b1 : (t287 != 0) = true := bne_iff_ne.mpr c4
    exact absurd ((Option.some.inj H).trans HRT.out) (by decide)
  rw [if_pos c4] at H
  have c4b0 : (t287 == 0) = true := beq_iff_eq.mpr c4
  have c4b1 : (t287 != 0) = false := bne_eq_false_iff_eq.mpr c4
  clear c4
  replace H := Option.bind_eq_some_iff.mp H
  obtain ⟨t288, A50, H⟩ := H
  (try dsimp only at H)
  have A5 := Aside0.mk A50
  clear A50
  by_cases c6 : t288 = 2
  rotate_left
  · rw [if_neg c6] at H
    have c6b0 : (t288 == 2) = false := beq_eq_false_iff_ne.mpr c6
    have c6b1 : (t288 != 2) = true := bne_iff_ne.mpr c6
    exact absurd ((Option.some.inj H).trans HRT.out) (by decide)
  rw [if_pos c6] at H
  have c6b0 : (t288 == 2) = true := beq_iff_eq.mpr c6
  have c6b1 : (t288 != 2) = false := bne_eq_false_iff_eq.mpr c6
  clear c6
  replace H := Option.bind_eq_some_iff.mp H
  obtain ⟨t289, A70, H⟩ := H
  (try dsimp only at H)
  have A7 := Aside0.mk A70
  clear A70
  by_cases c8 : t289 = 2
  rotate_left
  · rw [if_neg c8] at H
    have c8b0 : (t289 == 2) = false := beq_eq_false_iff_ne.mpr c8
    have c8b1 : (t289 != 2) = true := bne_iff_ne.mpr c8
    exact absurd ((Option.some.inj H).trans HRT.out) (by decide)
  rw [if_pos c8] at H
  have c8b0 : (t289 == 2) = true := beq_iff_eq.mpr c8
  have c8b1 : (t289 != 2) = false := bne_eq_false_iff_eq.mpr c8
  clear c8
  replace H := Option.bind_eq_some_iff.mp H
  obtain ⟨t290, A90, H⟩ := H
  (try dsimp only at H)
  have A9 := Aside0.mk A90
  clear A90
  by_cases c10 : t290 = 2
  rotate_left
  · rw [if_neg c10] at H
    have c10b0 : (t290 == 2) = false := beq_eq_false_iff_ne.mpr c10
    have c10b1 : (t290 != 2) = true := bne_iff_ne.mpr c10
    exact absurd ((Option.some.inj H).trans HRT.out) (by decide)
  rw [if_pos c10] at H
  have c10b0 : (t290 == 2) = true := beq_iff_eq.mpr c10
  have c10b1 : (t290 != 2) = false := bne_eq_false_iff_eq.mpr c10
  clear c10
  replace H := Option.bind_eq_some_iff.mp H
  obtain ⟨t291, A110, H⟩ := H
  (try dsimp only at H)
  have A11 := Aside0.mk A110
  clear A110
  by_cases c12 : t291 = 2
  rotate_left
  · rw [if_neg c12] at H
    have c12b0 : (t291 == 2) = false := beq_eq_false_iff_ne.mpr c12
    have c12b1 : (t291 != 2) = true := bne_iff_ne.mpr c12
    exact absurd ((Option.some.inj H).trans HRT.out) (by decide)
  rw [if_pos c12] at H
  have c12b0 : (t291 == 2) = true := beq_iff_eq.mpr c12
  have c12b1 : (t291 != 2) = false := bne_eq_false_iff_eq.mpr c12
  clear c12
  replace H := Option.bind_eq_some_iff.mp H
  obtain ⟨t292, A130, H⟩ := H
  (try dsimp only at H)
  have A13 := Aside0.mk A130
  clear A130
  by_cases c14 : t292 = 0
  rotate_left
  · rw [if_neg c14] at H
    have c14b0 : (t292 == 0) = false := beq_eq_false_iff_ne.mpr c14
    have c14b1 : (t292 != 0) = true := bne_iff_ne.mpr c14
    exact absurd ((Option.some.inj H).trans HRT.out) (by decide)
  rw [if_pos c14] at H
  have c14b0 : (t292 == 0) = true := beq_iff_eq.mpr c14
  have c14b1 : (t292 != 0) = false := bne_eq_false_iff_eq.mpr c14
  clear c14
  replace H := Option.bind_eq_some_iff.mp H
  obtain ⟨t293, A150, H⟩ := H
  (try dsimp only at H)
  have A15 := Aside0.mk A150
  clear A150
  by_cases c16 : t293 = 2
  rotate_left
  · rw [if_neg c16] at H
    have c16b0 : (t293 == 2) = false := beq_eq_false_iff_ne.mpr c16
    have c16b1 : (t293 != 2) = true := bne_iff_ne.mpr c16
    exact absurd ((Option.some.inj H).trans HRT.out) (by decide)
  rw [if_pos c16] at H
  have c16b0 : (t293 == 2) = true := beq_iff_eq.mpr c16
  have c16b1 : (t293 != 2) = false := bne_eq_false_iff_eq.mpr c16
  clear c16
  replace H := Option.bind_eq_some_iff.mp H
  obtain ⟨t294, A170, H⟩ := H
  (try dsimp only at H)
  have A17 := Aside0.mk A170
  clear A170
  by_cases c18 : t294 = 2
  rotate_left
  · rw [if_neg c18] at H
    have c18b0 : (t294 == 2) = false := beq_eq_false_iff_ne.mpr c18
    have c18b1 : (t294 != 2) = true := bne_iff_ne.mpr c18
    exact absurd ((Option.some.inj H).trans HRT.out) (by decide)
  rw [if_pos c18] at H
  have c18b0 : (t294 == 2) = true := beq_iff_eq.mpr c18
  have c18b1 : (t294 != 2) = false := bne_eq_false_iff_eq.mpr c18
  clear c18
  replace H := Option.bind_eq_some_iff.mp H
  obtain ⟨t295, A190, H⟩ := H
  (try dsimp only at H)
  have A19 := Aside0.mk A190
  clear A190
  replace H := Option.bind_eq_some_iff.mp H
  obtain ⟨⟨t3348, t3349⟩, A200, H⟩ := H
  (try dsimp only at H)
  have A20 := Aside0.mk A200
  clear A200
  replace H := Option.bind_eq_some_iff.mp H
  obtain ⟨⟨t3350, t3351⟩, A210, H⟩ := H
  (try dsimp only at H)
  have A21 := Aside0.mk A210
  clear A210
  replace H := Option.bind_eq_some_iff.mp H
  obtain ⟨⟨t3352, t3353⟩, A220, H⟩ := H
  (try dsimp only at H)
  have A22 := Aside0.mk A220
  clear A220
  replace H := Option.bind_eq_some_iff.mp H
  obtain ⟨⟨t3354, t3355⟩, A230, H⟩ := H
  (try dsimp only at H)
  have A23 := Aside0.mk A230
  clear A230
  replace H := Option.bind_eq_some_iff.mp H
  obtain ⟨⟨t3356, t3357⟩, A240, H⟩ := H
  (try dsimp only at H)
  have A24 := Aside0.mk A240
  clear A240
  replace H := Option.bind_eq_some_iff.mp H
  obtain ⟨⟨t3358, t3359⟩, A250, H⟩ := H
  (try dsimp only at H)
  have A25 := Aside0.mk A250
  clear A250
  replace H := Option.bind_eq_some_iff.mp H
  obtain ⟨⟨t3360, t3361⟩, A260, H⟩ := H
  (try dsimp only at H)
  have A26 := Aside0.mk A260
  clear A260
  replace H := Option.bind_eq_some_iff.mp H
  obtain ⟨t3362, A270, H⟩ := H
  (try dsimp only at H)
  have A27 := Aside0.mk A270
  clear A270
  by_cases c28 : t3362 = true
  rotate_left
  · replace c28 := Bool.eq_false_iff.mpr c28
    subst c28
    have H1 : (some false) = some r := by rw [if_neg (show ¬ (false = true) by decide)] at H; exact H
    clear H
    have H := H1
    clear H1
    exact absurd ((Option.some.inj H).trans HRT.out) (by decide)
  subst c28
  have H1 : ((fringelaw10_is.f t3350 t3351 1).bind fun t3363 => (if t3363 = true then ((fringelaw10_is.f t3352 t3353 1).bind fun t3364 => (if t3364 = true then ((fringelaw10_is.f t3354 t3355 1).bind fun t3365 => (if t3365 = true then ((fringelaw10_is.f t3356 t3357 1).bind fun t3366 => (if t3366 = true then ((fringelaw10_is.f t3358 t3359 0).bind fun t3367 => (if t3367 = true then ((fringelaw10_is.f t3360 t3361 1).bind fun t3368 => ((ring_Pow.f k 5 5 1).bind fun bt3650 => ((ring_Pow.f k 5 (-1) 1).bind fun bt3652 => ((ring_Pow.f k 5 1 (-1)).bind fun bt3654 => ((ring_Pow.f k 4 9 (-1)).bind fun bt3656 => ((ring_Inv.f k 5 0).bind fun bt3658 => ((ring_Order.f k 5 0).bind fun bt3660 => ((ring_Order.f k 5 5).bind fun bt3662 => ((ring_Root.f k 5 0).bind fun bt3664 => ((ring_Root.f k 5 3).bind fun bt3666 => ((ring_Root.f k 6 0).bind fun bt3668 => ((ring_Factors.f k 1).bind fun bt3670 => ((ring_Factors.f k 0).bind fun bt3674 => ((ring_Factors.f k 2000000001).bind fun bt3678 => ((ring_Factors.f k 1999999973).bind fun bt3682 => (if bt3650.2 = 8 then (if bt3652.2 = 8 then (if bt3654.2 = 2 then (if bt3656.2 = 2 then (if bt3658.2 = 18 then (if bt3660.2 = 18 then (if bt3662.2 = 8 then (if bt3664.2 = 2 then (if bt3666.2 = 6 then (if bt3668.2 = 2 then (if bt3670.2 = 0 then (if (bt3670.1.length : Int) = 0 then (if bt3674.2 = 2 then (if bt3678.2 = 2 then (if bt3682.2 = 0 then ((fringeref10_Same.f k bt3682.1 (([1999999973] : List Int))).bind fun t3689 => (if t295 = 0 then (if t3368 = true then (if t3689 = true then ((fringelaw10_alive.f).bind fun t3690 => (some t3690)) else (some false)) else (some false)) else (some false))) else (some false)) else (some false)) else (some false)) else (some false)) else (some false)) else (some false)) else (some false)) else (some false)) else (some false)) else (some false)) else (some false)) else (some false)) else (some false)) else (some false)) else (some false))))))))))))))))) else (some false))) else (some false))) else (some false))) else (some false))) else (some false))) = some r := by rw [if_pos rfl] at H; exact H
  clear H
  have H := H1
  clear H1
  replace H := Option.bind_eq_some_iff.mp H
  obtain ⟨t3363, A290, H⟩ := H
  (try dsimp only at H)
  have A29 := Aside0.mk A290
  clear A290
  by_cases c30 : t3363 = true
  rotate_left
  · replace c30 := Bool.eq_false_iff.mpr c30
    subst c30
    have H1 : (some false) = some r := by rw [if_neg (show ¬ (false = true) by decide)] at H; exact H
    clear H
    have H := H1
    clear H1
    exact absurd ((Option.some.inj H).trans HRT.out) (by decide)
  subst c30
  have H1 : ((fringelaw10_is.f t3352 t3353 1).bind fun t3364 => (if t3364 = true then ((fringelaw10_is.f t3354 t3355 1).bind fun t3365 => (if t3365 = true then ((fringelaw10_is.f t3356 t3357 1).bind fun t3366 => (if t3366 = true then ((fringelaw10_is.f t3358 t3359 0).bind fun t3367 => (if t3367 = true then ((fringelaw10_is.f t3360 t3361 1).bind fun t3368 => ((ring_Pow.f k 5 5 1).bind fun bt3650 => ((ring_Pow.f k 5 (-1) 1).bind fun bt3652 => ((ring_Pow.f k 5 1 (-1)).bind fun bt3654 => ((ring_Pow.f k 4 9 (-1)).bind fun bt3656 => ((ring_Inv.f k 5 0).bind fun bt3658 => ((ring_Order.f k 5 0).bind fun bt3660 => ((ring_Order.f k 5 5).bind fun bt3662 => ((ring_Root.f k 5 0).bind fun bt3664 => ((ring_Root.f k 5 3).bind fun bt3666 => ((ring_Root.f k 6 0).bind fun bt3668 => ((ring_Factors.f k 1).bind fun bt3670 => ((ring_Factors.f k 0).bind fun bt3674 => ((ring_Factors.f k 2000000001).bind fun bt3678 => ((ring_Factors.f k 1999999973).bind fun bt3682 => (if bt3650.2 = 8 then (if bt3652.2 = 8 then (if bt3654.2 = 2 then (if bt3656.2 = 2 then (if bt3658.2 = 18 then (if bt3660.2 = 18 then (if bt3662.2 = 8 then (if bt3664.2 = 2 then (if bt3666.2 = 6 then (if bt3668.2 = 2 then (if bt3670.2 = 0 then (if (bt3670.1.length : Int) = 0 then (if bt3674.2 = 2 then (if bt3678.2 = 2 then (if bt3682.2 = 0 then ((fringeref10_Same.f k bt3682.1 (([1999999973] : List Int))).bind fun t3689 => (if t295 = 0 then (if t3368 = true then (if t3689 = true then ((fringelaw10_alive.f).bind fun t3690 => (some t3690)) else (some false)) else (some false)) else (some false))) else (some false)) else (some false)) else (some false)) else (some false)) else (some false)) else (some false)) else (some false)) else (some false)) else (some false)) else (some false)) else (some false)) else (some false)) else (some false)) else (some false)) else (some false))))))))))))))))) else (some false))) else (some false))) else (some false))) else (some false))) = some r := by rw [if_pos rfl] at H; exact H
  clear H
  have H := H1
  clear H1
  replace H := Option.bind_eq_some_iff.mp H
  obtain ⟨t3364, A310, H⟩ := H
  (try dsimp only at H)
  have A31 := Aside0.mk A310
  clear A310
  by_cases c32 : t3364 = true
  rotate_left
  · replace c32 := Bool.eq_false_iff.mpr c32
    subst c32
    have H1 : (some false) = some r := by rw [if_neg (show ¬ (false = true) by decide)] at H; exact H
    clear H
    have H := H1
    clear H1
    exact absurd ((Option.some.inj H).trans HRT.out) (by decide)
  subst c32
  have H1 : ((fringelaw10_is.f t3354 t3355 1).bind fun t3365 => (if t3365 = true then ((fringelaw10_is.f t3356 t3357 1).bind fun t3366 => (if t3366 = true then ((fringelaw10_is.f t3358 t3359 0).bind fun t3367 => (if t3367 = true then ((fringelaw10_is.f t3360 t3361 1).bind fun t3368 => ((ring_Pow.f k 5 5 1).bind fun bt3650 => ((ring_Pow.f k 5 (-1) 1).bind fun bt3652 => ((ring_Pow.f k 5 1 (-1)).bind fun bt3654 => ((ring_Pow.f k 4 9 (-1)).bind fun bt3656 => ((ring_Inv.f k 5 0).bind fun bt3658 => ((ring_Order.f k 5 0).bind fun bt3660 => ((ring_Order.f k 5 5).bind fun bt3662 => ((ring_Root.f k 5 0).bind fun bt3664 => ((ring_Root.f k 5 3).bind fun bt3666 => ((ring_Root.f k 6 0).bind fun bt3668 => ((ring_Factors.f k 1).bind fun bt3670 => ((ring_Factors.f k 0).bind fun bt3674 => ((ring_Factors.f k 2000000001).bind fun bt3678 => ((ring_Factors.f k 1999999973).bind fun bt3682 => (if bt3650.2 = 8 then (if bt3652.2 = 8 then (if bt3654.2 = 2 then (if bt3656.2 = 2 then (if bt3658.2 = 18 then (if bt3660.2 = 18 then (if bt3662.2 = 8 then (if bt3664.2 = 2 then (if bt3666.2 = 6 then (if bt3668.2 = 2 then (if bt3670.2 = 0 then (if (bt3670.1.length : Int) = 0 then (if bt3674.2 = 2 then (if bt3678.2 = 2 then (if bt3682.2 = 0 then ((fringeref10_Same.f k bt3682.1 (([1999999973] : List Int))).bind fun t3689 => (if t295 = 0 then (if t3368 = true then (if t3689 = true then ((fringelaw10_alive.f).bind fun t3690 => (some t3690)) else (some false)) else (some false)) else (some false))) else (some false)) else (some false)) else (some false)) else (some false)) else (some false)) else (some false)) else (some false)) else (some false)) else (some false)) else (some false)) else (some false)) else (some false)) else (some false)) else (some false)) else (some false))))))))))))))))) else (some false))) else (some false))) else (some false))) = some r := by rw [if_pos rfl] at H; exact H
  clear H
  have H := H1
  clear H1
  replace H := Option.bind_eq_some_iff.mp H
  obtain ⟨t3365, A330, H⟩ := H
  (try dsimp only at H)
  have A33 := Aside0.mk A330
  clear A330
  by_cases c34 : t3365 = true
  rotate_left
  · replace c34 := Bool.eq_false_iff.mpr c34
    subst c34
    have H1 : (some false) = some r := by rw [if_neg (show ¬ (false = true) by decide)] at H; exact H
    clear H
    have H := H1
    clear H1
    exact absurd ((Option.some.inj H).trans HRT.out) (by decide)
  subst c34
  have H1 : ((fringelaw10_is.f t3356 t3357 1).bind fun t3366 => (if t3366 = true then ((fringelaw10_is.f t3358 t3359 0).bind fun t3367 => (if t3367 = true then ((fringelaw10_is.f t3360 t3361 1).bind fun t3368 => ((ring_Pow.f k 5 5 1).bind fun bt3650 => ((ring_Pow.f k 5 (-1) 1).bind fun bt3652 => ((ring_Pow.f k 5 1 (-1)).bind fun bt3654 => ((ring_Pow.f k 4 9 (-1)).bind fun bt3656 => ((ring_Inv.f k 5 0).bind fun bt3658 => ((ring_Order.f k 5 0).bind fun bt3660 => ((ring_Order.f k 5 5).bind fun bt3662 => ((ring_Root.f k 5 0).bind fun bt3664 => ((ring_Root.f k 5 3).bind fun bt3666 => ((ring_Root.f k 6 0).bind fun bt3668 => ((ring_Factors.f k 1).bind fun bt3670 => ((ring_Factors.f k 0).bind fun bt3674 => ((ring_Factors.f k 2000000001).bind fun bt3678 => ((ring_Factors.f k 1999999973).bind fun bt3682 => (if bt3650.2 = 8 then (if bt3652.2 = 8 then (if bt3654.2 = 2 then (if bt3656.2 = 2 then (if bt3658.2 = 18 then (if bt3660.2 = 18 then (if bt3662.2 = 8 then (if bt3664.2 = 2 then (if bt3666.2 = 6 then (if bt3668.2 = 2 then (if bt3670.2 = 0 then (if (bt3670.1.length : Int) = 0 then (if bt3674.2 = 2 then (if bt3678.2 = 2 then (if bt3682.2 = 0 then ((fringeref10_Same.f k bt3682.1 (([1999999973] : List Int))).bind fun t3689 => (if t295 = 0 then (if t3368 = true then (if t3689 = true then ((fringelaw10_alive.f).bind fun t3690 => (some t3690)) else (some false)) else (some false)) else (some false))) else (some false)) else (some false)) else (some false)) else (some false)) else (some false)) else (some false)) else (some false)) else (some false)) else (some false)) else (some false)) else (some false)) else (some false)) else (some false)) else (some false)) else (some false))))))))))))))))) else (some false))) else (some false))) = some r := by rw [if_pos rfl] at H; exact H
  clear H
  have H := H1
  clear H1
  replace H := Option.bind_eq_some_iff.mp H
  obtain ⟨t3366, A350, H⟩ := H
  (try dsimp only at H)
  have A35 := Aside0.mk A350
  clear A350
  by_cases c36 : t3366 = true
  rotate_left
  · replace c36 := Bool.eq_false_iff.mpr c36
    subst c36
    have H1 : (some false) = some r := by rw [if_neg (show ¬ (false = true) by decide)] at H; exact H
    clear H
    have H := H1
    clear H1
    exact absurd ((Option.some.inj H).trans HRT.out) (by decide)
  subst c36
  have H1 : ((fringelaw10_is.f t3358 t3359 0).bind fun t3367 => (if t3367 = true then ((fringelaw10_is.f t3360 t3361 1).bind fun t3368 => ((ring_Pow.f k 5 5 1).bind fun bt3650 => ((ring_Pow.f k 5 (-1) 1).bind fun bt3652 => ((ring_Pow.f k 5 1 (-1)).bind fun bt3654 => ((ring_Pow.f k 4 9 (-1)).bind fun bt3656 => ((ring_Inv.f k 5 0).bind fun bt3658 => ((ring_Order.f k 5 0).bind fun bt3660 => ((ring_Order.f k 5 5).bind fun bt3662 => ((ring_Root.f k 5 0).bind fun bt3664 => ((ring_Root.f k 5 3).bind fun bt3666 => ((ring_Root.f k 6 0).bind fun bt3668 => ((ring_Factors.f k 1).bind fun bt3670 => ((ring_Factors.f k 0).bind fun bt3674 => ((ring_Factors.f k 2000000001).bind fun bt3678 => ((ring_Factors.f k 1999999973).bind fun bt3682 => (if bt3650.2 = 8 then (if bt3652.2 = 8 then (if bt3654.2 = 2 then (if bt3656.2 = 2 then (if bt3658.2 = 18 then (if bt3660.2 = 18 then (if bt3662.2 = 8 then (if bt3664.2 = 2 then (if bt3666.2 = 6 then (if bt3668.2 = 2 then (if bt3670.2 = 0 then (if (bt3670.1.length : Int) = 0 then (if bt3674.2 = 2 then (if bt3678.2 = 2 then (if bt3682.2 = 0 then ((fringeref10_Same.f k bt3682.1 (([1999999973] : List Int))).bind fun t3689 => (if t295 = 0 then (if t3368 = true then (if t3689 = true then ((fringelaw10_alive.f).bind fun t3690 => (some t3690)) else (some false)) else (some false)) else (some false))) else (some false)) else (some false)) else (some false)) else (some false)) else (some false)) else (some false)) else (some false)) else (some false)) else (some false)) else (some false)) else (some false)) else (some false)) else (some false)) else (some false)) else (some false))))))))))))))))) else (some false))) = some r := by rw [if_pos rfl] at H; exact H
  clear H
  have H := H1
  clear H1
  replace H := Option.bind_eq_some_iff.mp H
  obtain ⟨t3367, A370, H⟩ := H
  (try dsimp only at H)
  have A37 := Aside0.mk A370
  clear A370
  by_cases c38 : t3367 = true
  rotate_left
  · replace c38 := Bool.eq_false_iff.mpr c38
    subst c38
    have H1 : (some false) = some r := by rw [if_neg (show ¬ (false = true) by decide)] at H; exact H
    clear H
    have H := H1
    clear H1
    exact absurd ((Option.some.inj H).trans HRT.out) (by decide)
  subst c38
  have H1 : ((fringelaw10_is.f t3360 t3361 1).bind fun t3368 => ((ring_Pow.f k 5 5 1).bind fun bt3650 => ((ring_Pow.f k 5 (-1) 1).bind fun bt3652 => ((ring_Pow.f k 5 1 (-1)).bind fun bt3654 => ((ring_Pow.f k 4 9 (-1)).bind fun bt3656 => ((ring_Inv.f k 5 0).bind fun bt3658 => ((ring_Order.f k 5 0).bind fun bt3660 => ((ring_Order.f k 5 5).bind fun bt3662 => ((ring_Root.f k 5 0).bind fun bt3664 => ((ring_Root.f k 5 3).bind fun bt3666 => ((ring_Root.f k 6 0).bind fun bt3668 => ((ring_Factors.f k 1).bind fun bt3670 => ((ring_Factors.f k 0).bind fun bt3674 => ((ring_Factors.f k 2000000001).bind fun bt3678 => ((ring_Factors.f k 1999999973).bind fun bt3682 => (if bt3650.2 = 8 then (if bt3652.2 = 8 then (if bt3654.2 = 2 then (if bt3656.2 = 2 then (if bt3658.2 = 18 then (if bt3660.2 = 18 then (if bt3662.2 = 8 then (if bt3664.2 = 2 then (if bt3666.2 = 6 then (if bt3668.2 = 2 then (if bt3670.2 = 0 then (if (bt3670.1.length : Int) = 0 then (if bt3674.2 = 2 then (if bt3678.2 = 2 then (if bt3682.2 = 0 then ((fringeref10_Same.f k bt3682.1 (([1999999973] : List Int))).bind fun t3689 => (if t295 = 0 then (if t3368 = true then (if t3689 = true then ((fringelaw10_alive.f).bind fun t3690 => (some t3690)) else (some false)) else (some false)) else (some false))) else (some false)) else (some false)) else (some false)) else (some false)) else (some false)) else (some false)) else (some false)) else (some false)) else (some false)) else (some false)) else (some false)) else (some false)) else (some false)) else (some false)) else (some false))))))))))))))))) = some r := by rw [if_pos rfl] at H; exact H
  clear H
  have H := H1
  clear H1
  replace H := Option.bind_eq_some_iff.mp H
  obtain ⟨t3368, A390, H⟩ := H
  (try dsimp only at H)
  have A39 := Aside0.mk A390
  clear A390
  replace H := Option.bind_eq_some_iff.mp H
  obtain ⟨⟨t3650, t3651⟩, A400, H⟩ := H
  (try dsimp only at H)
  have A40 := Aside0.mk A400
  clear A400
  replace H := Option.bind_eq_some_iff.mp H
  obtain ⟨⟨t3652, t3653⟩, A410, H⟩ := H
  (try dsimp only at H)
  have A41 := Aside0.mk A410
  clear A410
  replace H := Option.bind_eq_some_iff.mp H
  obtain ⟨⟨t3654, t3655⟩, A420, H⟩ := H
  (try dsimp only at H)
  have A42 := Aside0.mk A420
  clear A420
  replace H := Option.bind_eq_some_iff.mp H
  obtain ⟨⟨t3656, t3657⟩, A430, H⟩ := H
  (try dsimp only at H)
  have A43 := Aside0.mk A430
  clear A430
  replace H := Option.bind_eq_some_iff.mp H
  obtain ⟨⟨t3658, t3659⟩, A440, H⟩ := H
  (try dsimp only at H)
  have A44 := Aside0.mk A440
  clear A440
  replace H := Option.bind_eq_some_iff.mp H
  obtain ⟨⟨t3660, t3661⟩, A450, H⟩ := H
  (try dsimp only at H)
  have A45 := Aside0.mk A450
  clear A450
  replace H := Option.bind_eq_some_iff.mp H
  obtain ⟨⟨t3662, t3663⟩, A460, H⟩ := H
  (try dsimp only at H)
  have A46 := Aside0.mk A460
  clear A460
  replace H := Option.bind_eq_some_iff.mp H
  obtain ⟨⟨t3664, t3665⟩, A470, H⟩ := H
  (try dsimp only at H)
  have A47 := Aside0.mk A470
  clear A470
  replace H := Option.bind_eq_some_iff.mp H
  obtain ⟨⟨t3666, t3667⟩, A480, H⟩ := H
  (try dsimp only at H)
  have A48 := Aside0.mk A480
  clear A480
  replace H := Option.bind_eq_some_iff.mp H
  obtain ⟨⟨t3668, t3669⟩, A490, H⟩ := H
  (try dsimp only at H)
  have A49 := Aside0.mk A490
  clear A490
  replace H := Option.bind_eq_some_iff.mp H
  obtain ⟨⟨t3670, t3671⟩, A500, H⟩ := H
  (try dsimp only at H)
  have A50 := Aside0.mk A500
  clear A500
  replace H := Option.bind_eq_some_iff.mp H
  obtain ⟨⟨t3674, t3675⟩, A510, H⟩ := H
  (try dsimp only at H)
  have A51 := Aside0.mk A510
  clear A510
  replace H := Option.bind_eq_some_iff.mp H
  obtain ⟨⟨t3678, t3679⟩, A520, H⟩ := H
  (try dsimp only at H)
  have A52 := Aside0.mk A520
  clear A520
  replace H := Option.bind_eq_some_iff.mp H
  obtain ⟨⟨t3682, t3683⟩, A530, H⟩ := H
  (try dsimp only at H)
  have A53 := Aside0.mk A530
  clear A530
  by_cases c54 : t3651 = 8
  rotate_left
  · rw [if_neg c54] at H
    have c54b0 : (t3651 == 8) = false := beq_eq_false_iff_ne.mpr c54
    have c54b1 : (t3651 != 8) = true := bne_iff_ne.mpr c54
    exact absurd ((Option.some.inj H).trans HRT.out) (by decide)
  rw [if_pos c54] at H
  have c54b0 : (t3651 == 8) = true := beq_iff_eq.mpr c54
  have c54b1 : (t3651 != 8) = false := bne_eq_false_iff_eq.mpr c54
  clear c54
  by_cases c55 : t3653 = 8
  rotate_left
  · rw [if_neg c55] at H
    have c55b0 : (t3653 == 8) = false := beq_eq_false_iff_ne.mpr c55
    have c55b1 : (t3653 != 8) = true := bne_iff_ne.mpr c55
    exact absurd ((Option.some.inj H).trans HRT.out) (by decide)
  rw [if_pos c55] at H
  have c55b0 : (t3653 == 8) = true := beq_iff_eq.mpr c55
  have c55b1 : (t3653 != 8) = false := bne_eq_false_iff_eq.mpr c55
  clear c55
  by_cases c56 : t3655 = 2
  rotate_left
  · rw [if_neg c56] at H
    have c56b0 : (t3655 == 2) = false := beq_eq_false_iff_ne.mpr c56
    have c56b1 : (t3655 != 2) = true := bne_iff_ne.mpr c56
    exact absurd ((Option.some.inj H).trans HRT.out) (by decide)
  rw [if_pos c56] at H
  have c56b0 : (t3655 == 2) = true := beq_iff_eq.mpr c56
  have c56b1 : (t3655 != 2) = false := bne_eq_false_iff_eq.mpr c56
  clear c56
  by_cases c57 : t3657 = 2
  rotate_left
  · rw [if_neg c57] at H
    have c57b0 : (t3657 == 2) = false := beq_eq_false_iff_ne.mpr c57
    have c57b1 : (t3657 != 2) = true := bne_iff_ne.mpr c57
    exact absurd ((Option.some.inj H).trans HRT.out) (by decide)
  rw [if_pos c57] at H
  have c57b0 : (t3657 == 2) = true := beq_iff_eq.mpr c57
  have c57b1 : (t3657 != 2) = false := bne_eq_false_iff_eq.mpr c57
  clear c57
  by_cases c58 : t3659 = 18
  rotate_left
  · rw [if_neg c58] at H
    have c58b0 : (t3659 == 18) = false := beq_eq_false_iff_ne.mpr c58
    have c58b1 : (t3659 != 18) = true := bne_iff_ne.mpr c58
    exact absurd ((Option.some.inj H).trans HRT.out) (by decide)
  rw [if_pos c58] at H
  have c58b0 : (t3659 == 18) = true := beq_iff_eq.mpr c58
  have c58b1 : (t3659 != 18) = false := bne_eq_false_iff_eq.mpr c58
  clear c58
  by_cases c59 : t3661 = 18
  rotate_left
  · rw [if_neg c59] at H
    have c59b0 : (t3661 == 18) = false := beq_eq_false_iff_ne.mpr c59
    have c59b1 : (t3661 != 18) = true := bne_iff_ne.mpr c59
    exact absurd ((Option.some.inj H).trans HRT.out) (by decide)
  rw [if_pos c59] at H
  have c59b0 : (t3661 == 18) = true := beq_iff_eq.mpr c59
  have c59b1 : (t3661 != 18) = false := bne_eq_false_iff_eq.mpr c59
  clear c59
  by_cases c60 : t3663 = 8
  rotate_left
  · rw [if_neg c60] at H
    have c60b0 : (t3663 == 8) = false := beq_eq_false_iff_ne.mpr c60
    have c60b1 : (t3663 != 8) = true := bne_iff_ne.mpr c60
    exact absurd ((Option.some.inj H).trans HRT.out) (by decide)
  rw [if_pos c60] at H
  have c60b0 : (t3663 == 8) = true := beq_iff_eq.mpr c60
  have c60b1 : (t3663 != 8) = false := bne_eq_false_iff_eq.mpr c60
  clear c60
  by_cases c61 : t3665 = 2
  rotate_left
  · rw [if_neg c61] at H
    have c61b0 : (t3665 == 2) = false := beq_eq_false_iff_ne.mpr c61
    have c61b1 : (t3665 != 2) = true := bne_iff_ne.mpr c61
    exact absurd ((Option.some.inj H).trans HRT.out) (by decide)
  rw [if_pos c61] at H
  have c61b0 : (t3665 == 2) = true := beq_iff_eq.mpr c61
  have c61b1 : (t3665 != 2) = false := bne_eq_false_iff_eq.mpr c61
  clear c61
  by_cases c62 : t3667 = 6
  rotate_left
  · rw [if_neg c62] at H
    have c62b0 : (t3667 == 6) = false := beq_eq_false_iff_ne.mpr c62
    have c62b1 : (t3667 != 6) = true := bne_iff_ne.mpr c62
    exact absurd ((Option.some.inj H).trans HRT.out) (by decide)
  rw [if_pos c62] at H
  have c62b0 : (t3667 == 6) = true := beq_iff_eq.mpr c62
  have c62b1 : (t3667 != 6) = false := bne_eq_false_iff_eq.mpr c62
  clear c62
  by_cases c63 : t3669 = 2
  rotate_left
  · rw [if_neg c63] at H
    have c63b0 : (t3669 == 2) = false := beq_eq_false_iff_ne.mpr c63
    have c63b1 : (t3669 != 2) = true := bne_iff_ne.mpr c63
    exact absurd ((Option.some.inj H).trans HRT.out) (by decide)
  rw [if_pos c63] at H
  have c63b0 : (t3669 == 2) = true := beq_iff_eq.mpr c63
  have c63b1 : (t3669 != 2) = false := bne_eq_false_iff_eq.mpr c63
  clear c63
  by_cases c64 : t3671 = 0
  rotate_left
  · rw [if_neg c64] at H
    have c64b0 : (t3671 == 0) = false := beq_eq_false_iff_ne.mpr c64
    have c64b1 : (t3671 != 0) = true := bne_iff_ne.mpr c64
    exact absurd ((Option.some.inj H).trans HRT.out) (by decide)
  rw [if_pos c64] at H
  have c64b0 : (t3671 == 0) = true := beq_iff_eq.mpr c64
  have c64b1 : (t3671 != 0) = false := bne_eq_false_iff_eq.mpr c64
  clear c64
  by_cases c65 : (t3670.length : Int) = 0
  rotate_left
  · rw [if_neg c65] at H
    have c65b0 : ((t3670.length : Int) == 0) = false := beq_eq_false_iff_ne.mpr c65
    have c65b1 : ((t3670.length : Int) != 0) = true := bne_iff_ne.mpr c65
    have c65b2 : ¬ (t3670 = []) := fun h_ => c65 (by rw [h_]; rfl)
    exact absurd ((Option.some.inj H).trans HRT.out) (by decide)
  rw [if_pos c65] at H
  have c65b0 : ((t3670.length : Int) == 0) = true := beq_iff_eq.mpr c65
  have c65b1 : ((t3670.length : Int) != 0) = false := bne_eq_false_iff_eq.mpr c65
  clear c65
  by_cases c66 : t3675 = 2
  rotate_left
  · rw [if_neg c66] at H
    have c66b0 : (t3675 == 2) = false := beq_eq_false_iff_ne.mpr c66
    have c66b1 : (t3675 != 2) = true := bne_iff_ne.mpr c66
    exact absurd ((Option.some.inj H).trans HRT.out) (by decide)
  rw [if_pos c66] at H
  have c66b0 : (t3675 == 2) = true := beq_iff_eq.mpr c66
  have c66b1 : (t3675 != 2) = false := bne_eq_false_iff_eq.mpr c66
  clear c66
  by_cases c67 : t3679 = 2
  rotate_left
  · rw [if_neg c67] at H
    have c67b0 : (t3679 == 2) = false := beq_eq_false_iff_ne.mpr c67
    have c67b1 : (t3679 != 2) = true := bne_iff_ne.mpr c67
    exact absurd ((Option.some.inj H).trans HRT.out) (by decide)
  rw [if_pos c67] at H
  have c67b0 : (t3679 == 2) = true := beq_iff_eq.mpr c67
  have c67b1 : (t3679 != 2) = false := bne_eq_false_iff_eq.mpr c67
  clear c67
  by_cases c68 : t3683 = 0
  rotate_left
  · rw [if_neg c68] at H
    have c68b0 : (t3683 == 0) = false := beq_eq_false_iff_ne.mpr c68
    have c68b1 : (t3683 != 0) = true := bne_iff_ne.mpr c68
    exact absurd ((Option.some.inj H).trans HRT.out) (by decide)
  rw [if_pos c68] at H
  have c68b0 : (t3683 == 0) = true := beq_iff_eq.mpr c68
  have c68b1 : (t3683 != 0) = false := bne_eq_false_iff_eq.mpr c68
  clear c68
  obtain ⟨y3686, hy3686⟩ : ∃ y_ : List Int, y_ = (([1999999973] : List Int)) := ⟨_, rfl⟩
  replace H : ((fringeref10_Same.f k t3682 y3686).bind fun t3689 => (if t295 = 0 then (if t3368 = true then (if t3689 = true then ((fringelaw10_alive.f).bind fun t3690 => (some t3690)) else (some false)) else (some false)) else (some false))) = some r := by first | (rw [hy3686]; with_reducible exact H) | (have H2_ := (Option.bind_some _ _).symm.trans H; rw [hy3686]; with_reducible exact H2_) | (have H2_ := (Option.bind_some _ _).symm.trans H; with_reducible exact H2_) | with_reducible exact H | (rw [hy3686]; exact H) | exact H
  have Ny3686 := Aside0.mk hy3686
  clear hy3686
  replace H := Option.bind_eq_some_iff.mp H
  obtain ⟨t3689, A690, H⟩ := H
  (try dsimp only at H)
  have A69 := Aside0.mk A690
  clear A690
  by_cases c70 : t295 = 0
  rotate_left
  · rw [if_neg c70] at H
    have c70b0 : (t295 == 0) = false := beq_eq_false_iff_ne.mpr c70
    have c70b1 : (t295 != 0) = true := bne_iff_ne.mpr c70
    exact absurd ((Option.some.inj H).trans HRT.out) (by decide)
  rw [if_pos c70] at H
  have c70b0 : (t295 == 0) = true := beq_iff_eq.mpr c70
  have c70b1 : (t295 != 0) = false := bne_eq_false_iff_eq.mpr c70
  clear c70
  by_cases c71 : t3368 = true
  rotate_left
  · replace c71 := Bool.eq_false_iff.mpr c71
    subst c71
    have H1 : (some false) = some r := by rw [if_neg (show ¬ (false = true) by decide)] at H; exact H
    clear H
    have H := H1
    clear H1
    exact absurd ((Option.some.inj H).trans HRT.out) (by decide)
  subst c71
  have H1 : (if t3689 = true then ((fringelaw10_alive.f).bind fun t3690 => (some t3690)) else (some false)) = some r := by rw [if_pos rfl] at H; exact H
  clear H
  have H := H1
  clear H1
  by_cases c72 : t3689 = true
  rotate_left
  · replace c72 := Bool.eq_false_iff.mpr c72
    subst c72
    have H1 : (some false) = some r := by rw [if_neg (show ¬ (false = true) by decide)] at H; exact H
    clear H
    have H := H1
    clear H1
    exact absurd ((Option.some.inj H).trans HRT.out) (by decide)
  subst c72
  have H1 : ((fringelaw10_alive.f).bind fun t3690 => (some t3690)) = some r := by rw [if_pos rfl] at H; exact H
  clear H
  have H := H1
  clear H1
  replace H := Option.bind_eq_some_iff.mp H
  obtain ⟨t3690, A730, H⟩ := H
  replace H : (some t3690) = some r := H
  have A73 := Aside0.mk A730
  clear A730
  obtain rfl := Option.some.inj H
  go_enter Try.func8, Try.ntmps8
  go_wp2_with (first | ((with_reducible refine gate_callee (f := 14) rfl ?_); refine goesL_ (some 46) rfl rfl Try.func14 (by kernel_rfl) rfl #[.int .i64 2] rfl (by (try simp only [List.map_toArray, List.map_cons, List.map_nil]); first | done | rfl | (simp only [List.length_drop, List.length_take]; rfl)) ?_; (with_reducible refine (ring_Check.calls k 2 t286 _ A1.out).mono ?_); rintro e w' ⟨rfl, ⟨nd, rfl⟩⟩; refine ⟨_, rfl, ?_⟩) | (go_at_call 14; (with_reducible refine (ring_Check.calls k 3 t287 _ A3.out).mono ?_); rintro e w' ⟨rfl, ⟨nd, rfl⟩⟩) | (go_at_call 14; (with_reducible refine (ring_Check.calls k 1 t288 _ A5.out).mono ?_); rintro e w' ⟨rfl, ⟨nd, rfl⟩⟩) | (go_at_call 14; (with_reducible refine (ring_Check.calls k 0 t289 _ A7.out).mono ?_); rintro e w' ⟨rfl, ⟨nd, rfl⟩⟩) | (go_at_call 14; (with_reducible refine (ring_Check.calls k (-7) t290 _ A9.out).mono ?_); rintro e w' ⟨rfl, ⟨nd, rfl⟩⟩) | (go_at_call 14; (with_reducible refine (ring_Check.calls k 9 t291 _ A11.out).mono ?_); rintro e w' ⟨rfl, ⟨nd, rfl⟩⟩) | (go_at_call 14; (with_reducible refine (ring_Check.calls k 1999999973 t292 _ A13.out).mono ?_); rintro e w' ⟨rfl, ⟨nd, rfl⟩⟩) | (go_at_call 14; (with_reducible refine (ring_Check.calls k 2000000011 t293 _ A15.out).mono ?_); rintro e w' ⟨rfl, ⟨nd, rfl⟩⟩) | (go_at_call 14; (with_reducible refine (ring_Check.calls k 9223372036854775807 t294 _ A17.out).mono ?_); rintro e w' ⟨rfl, ⟨nd, rfl⟩⟩) | (go_at_call 14; (with_reducible refine (ring_Check.calls k 1000000007 t295 _ A19.out).mono ?_); rintro e w' ⟨rfl, ⟨nd, rfl⟩⟩) | ((with_reducible refine gate_callee (f := 20) rfl ?_); refine goesL_ (some 85) rfl rfl Try.func20 (by kernel_rfl) rfl #[.int .i64 2] rfl (by (try simp only [List.map_toArray, List.map_cons, List.map_nil]); first | done | rfl | (simp only [List.length_drop, List.length_take]; rfl)) ?_; (with_reducible refine (ring_Generator.calls k 2 t3348 t3349 _ A20.out).mono ?_); rintro e w74 ⟨rfl, hb⟩; refine ⟨_, rfl, ?_⟩; have n0_ := Aside0.mk (below_step (by repeat (first | (with_reducible first | exact HB.out | apply below_alloc | apply pw_below_drewN | apply below_drew1) | exact HB.out)) hb); clear HB; have HB := n0_; clear n0_; (try clear hb)) | ((with_reducible refine gate_callee (f := 12) rfl ?_); refine goesL_ (some 89) rfl rfl Try.func12 (by kernel_rfl) rfl #[.int .i64 2, .int .i64 1] rfl (by (try simp only [List.map_toArray, List.map_cons, List.map_nil]); first | done | rfl | (simp only [List.length_drop, List.length_take]; rfl)) ?_; (with_reducible refine (ring_Inv.calls k 2 1 t3350 t3351 _ A21.out).mono ?_); rintro e w' ⟨rfl, ⟨nd, rfl⟩⟩; refine ⟨_, rfl, ?_⟩) | ((with_reducible refine gate_callee (f := 18) rfl ?_); refine goesL_ (some 93) rfl rfl Try.func18 (by kernel_rfl) rfl #[.int .i64 2, .int .i64 1] rfl (by (try simp only [List.map_toArray, List.map_cons, List.map_nil]); first | done | rfl | (simp only [List.length_drop, List.length_take]; rfl)) ?_; (with_reducible refine (ring_Order.calls k 2 1 t3352 t3353 _ A22.out).mono ?_); rintro e w75 ⟨rfl, hb⟩; refine ⟨_, rfl, ?_⟩; have n0_ := Aside0.mk (below_step (by repeat (first | (with_reducible first | exact HB.out | apply below_alloc | apply pw_below_drewN | apply below_drew1) | exact HB.out)) hb); clear HB; have HB := n0_; clear n0_; (try clear hb)) | ((with_reducible refine gate_callee (f := 22) rfl ?_); refine goesL_ (some 97) rfl rfl Try.func22 (by kernel_rfl) rfl #[.int .i64 2, .int .i64 1] rfl (by (try simp only [List.map_toArray, List.map_cons, List.map_nil]); first | done | rfl | (simp only [List.length_drop, List.length_take]; rfl)) ?_; (with_reducible refine (ring_Root.calls k 2 1 t3354 t3355 _ A23.out).mono ?_); rintro e w76 ⟨rfl, hb⟩; refine ⟨_, rfl, ?_⟩; have n0_ := Aside0.mk (below_step (by repeat (first | (with_reducible first | exact HB.out | apply below_alloc | apply pw_below_drewN | apply below_drew1) | exact HB.out)) hb); clear HB; have HB := n0_; clear n0_; (try clear hb)) | ((with_reducible refine gate_callee (f := 10) rfl ?_); refine goesL_ (some 101) rfl rfl Try.func10 (by kernel_rfl) rfl #[.int .i64 5, .int .i64 0, .int .i64 0] rfl (by (try simp only [List.map_toArray, List.map_cons, List.map_nil]); first | done | rfl | (simp only [List.length_drop, List.length_take]; rfl)) ?_; (with_reducible refine (ring_Pow.calls k 5 0 0 t3356 t3357 _ A24.out).mono ?_); rintro e w' ⟨rfl, ⟨nd, rfl⟩⟩; refine ⟨_, rfl, ?_⟩) | ((with_reducible refine gate_callee (f := 10) rfl ?_); refine goesL_ (some 105) rfl rfl Try.func10 (by kernel_rfl) rfl #[.int .i64 5, .int .i64 0, .int .i64 3] rfl (by (try simp only [List.map_toArray, List.map_cons, List.map_nil]); first | done | rfl | (simp only [List.length_drop, List.length_take]; rfl)) ?_; (with_reducible refine (ring_Pow.calls k 5 0 3 t3358 t3359 _ A25.out).mono ?_); rintro e w' ⟨rfl, ⟨nd, rfl⟩⟩; refine ⟨_, rfl, ?_⟩) | ((with_reducible refine gate_callee (f := 10) rfl ?_); refine goesL_ (some 109) rfl rfl Try.func10 (by kernel_rfl) rfl #[.int .i64 1000000007, .int .i64 2, .int .i64 1000000006] rfl (by (try simp only [List.map_toArray, List.map_cons, List.map_nil]); first | done | rfl | (simp only [List.length_drop, List.length_take]; rfl)) ?_; (with_reducible refine (ring_Pow.calls k 1000000007 2 1000000006 t3360 t3361 _ A26.out).mono ?_); rintro e w' ⟨rfl, ⟨nd, rfl⟩⟩; refine ⟨_, rfl, ?_⟩) | ((with_reducible refine gate_callee (f := 28) rfl ?_); refine goesL_ (some 114) rfl rfl Try.func28 (by kernel_rfl) rfl #[.int .i64 t3348, .int .i64 t3349, .int .i64 1] rfl (by (try simp only [List.map_toArray, List.map_cons, List.map_nil]); first | done | rfl | (simp only [List.length_drop, List.length_take]; rfl)) ?_; (with_reducible refine (fringelaw10_is.calls t3348 t3349 1 true _ A27.out).mono ?_); rintro e w' ⟨rfl, ⟨nd, rfl⟩⟩; refine ⟨_, rfl, ?_⟩) | (go_at_call 28; (with_reducible refine (fringelaw10_is.calls t3350 t3351 1 true _ A29.out).mono ?_); rintro e w' ⟨rfl, ⟨nd, rfl⟩⟩) | (go_at_call 28; (with_reducible refine (fringelaw10_is.calls t3352 t3353 1 true _ A31.out).mono ?_); rintro e w' ⟨rfl, ⟨nd, rfl⟩⟩) | (go_at_call 28; (with_reducible refine (fringelaw10_is.calls t3354 t3355 1 true _ A33.out).mono ?_); rintro e w' ⟨rfl, ⟨nd, rfl⟩⟩) | (go_at_call 28; (with_reducible refine (fringelaw10_is.calls t3356 t3357 1 true _ A35.out).mono ?_); rintro e w' ⟨rfl, ⟨nd, rfl⟩⟩) | (go_at_call 28; (with_reducible refine (fringelaw10_is.calls t3358 t3359 0 true _ A37.out).mono ?_); rintro e w' ⟨rfl, ⟨nd, rfl⟩⟩) | (go_at_call 28; (with_reducible refine (fringelaw10_is.calls t3360 t3361 1 true _ A39.out).mono ?_); rintro e w' ⟨rfl, ⟨nd, rfl⟩⟩) | ((with_reducible refine gate_callee (f := 10) rfl ?_); refine goesL_ (some 146) rfl rfl Try.func10 (by kernel_rfl) rfl #[.int .i64 5, .int .i64 5, .int .i64 1] rfl (by (try simp only [List.map_toArray, List.map_cons, List.map_nil]); first | done | rfl | (simp only [List.length_drop, List.length_take]; rfl)) ?_; (with_reducible refine (ring_Pow.calls k 5 5 1 t3650 t3651 _ A40.out).mono ?_); rintro e w' ⟨rfl, ⟨nd, rfl⟩⟩; refine ⟨_, rfl, ?_⟩) | ((with_reducible refine gate_callee (f := 10) rfl ?_); refine goesL_ (some 150) rfl rfl Try.func10 (by kernel_rfl) rfl #[.int .i64 5, .int .i64 (-1), .int .i64 1] rfl (by (try simp only [List.map_toArray, List.map_cons, List.map_nil]); first | done | rfl | (simp only [List.length_drop, List.length_take]; rfl)) ?_; (with_reducible refine (ring_Pow.calls k 5 (-1) 1 t3652 t3653 _ A41.out).mono ?_); rintro e w' ⟨rfl, ⟨nd, rfl⟩⟩; refine ⟨_, rfl, ?_⟩) | ((with_reducible refine gate_callee (f := 10) rfl ?_); refine goesL_ (some 154) rfl rfl Try.func10 (by kernel_rfl) rfl #[.int .i64 5, .int .i64 1, .int .i64 (-1)] rfl (by (try simp only [List.map_toArray, List.map_cons, List.map_nil]); first | done | rfl | (simp only [List.length_drop, List.length_take]; rfl)) ?_; (with_reducible refine (ring_Pow.calls k 5 1 (-1) t3654 t3655 _ A42.out).mono ?_); rintro e w' ⟨rfl, ⟨nd, rfl⟩⟩; refine ⟨_, rfl, ?_⟩) | ((with_reducible refine gate_callee (f := 10) rfl ?_); refine goesL_ (some 158) rfl rfl Try.func10 (by kernel_rfl) rfl #[.int .i64 4, .int .i64 9, .int .i64 (-1)] rfl (by (try simp only [List.map_toArray, List.map_cons, List.map_nil]); first | done | rfl | (simp only [List.length_drop, List.length_take]; rfl)) ?_; (with_reducible refine (ring_Pow.calls k 4 9 (-1) t3656 t3657 _ A43.out).mono ?_); rintro e w' ⟨rfl, ⟨nd, rfl⟩⟩; refine ⟨_, rfl, ?_⟩) | ((with_reducible refine gate_callee (f := 12) rfl ?_); refine goesL_ (some 162) rfl rfl Try.func12 (by kernel_rfl) rfl #[.int .i64 5, .int .i64 0] rfl (by (try simp only [List.map_toArray, List.map_cons, List.map_nil]); first | done | rfl | (simp only [List.length_drop, List.length_take]; rfl)) ?_; (with_reducible refine (ring_Inv.calls k 5 0 t3658 t3659 _ A44.out).mono ?_); rintro e w' ⟨rfl, ⟨nd, rfl⟩⟩; refine ⟨_, rfl, ?_⟩) | ((with_reducible refine gate_callee (f := 18) rfl ?_); refine goesL_ (some 166) rfl rfl Try.func18 (by kernel_rfl) rfl #[.int .i64 5, .int .i64 0] rfl (by (try simp only [List.map_toArray, List.map_cons, List.map_nil]); first | done | rfl | (simp only [List.length_drop, List.length_take]; rfl)) ?_; (with_reducible refine (ring_Order.calls k 5 0 t3660 t3661 _ A45.out).mono ?_); rintro e w77 ⟨rfl, hb⟩; refine ⟨_, rfl, ?_⟩; have n0_ := Aside0.mk (below_step (by repeat (first | (with_reducible first | exact HB.out | apply below_alloc | apply pw_below_drewN | apply below_drew1) | exact HB.out)) hb); clear HB; have HB := n0_; clear n0_; (try clear hb)) | ((with_reducible refine gate_callee (f := 18) rfl ?_); refine goesL_ (some 170) rfl rfl Try.func18 (by kernel_rfl) rfl #[.int .i64 5, .int .i64 5] rfl (by (try simp only [List.map_toArray, List.map_cons, List.map_nil]); first | done | rfl | (simp only [List.length_drop, List.length_take]; rfl)) ?_; (with_reducible refine (ring_Order.calls k 5 5 t3662 t3663 _ A46.out).mono ?_); rintro e w78 ⟨rfl, hb⟩; refine ⟨_, rfl, ?_⟩; have n0_ := Aside0.mk (below_step (by repeat (first | (with_reducible first | exact HB.out | apply below_alloc | apply pw_below_drewN | apply below_drew1) | exact HB.out)) hb); clear HB; have HB := n0_; clear n0_; (try clear hb)) | ((with_reducible refine gate_callee (f := 22) rfl ?_); refine goesL_ (some 174) rfl rfl Try.func22 (by kernel_rfl) rfl #[.int .i64 5, .int .i64 0] rfl (by (try simp only [List.map_toArray, List.map_cons, List.map_nil]); first | done | rfl | (simp only [List.length_drop, List.length_take]; rfl)) ?_; (with_reducible refine (ring_Root.calls k 5 0 t3664 t3665 _ A47.out).mono ?_); rintro e w79 ⟨rfl, hb⟩; refine ⟨_, rfl, ?_⟩; have n0_ := Aside0.mk (below_step (by repeat (first | (with_reducible first | exact HB.out | apply below_alloc | apply pw_below_drewN | apply below_drew1) | exact HB.out)) hb); clear HB; have HB := n0_; clear n0_; (try clear hb)) | ((with_reducible refine gate_callee (f := 22) rfl ?_); refine goesL_ (some 178) rfl rfl Try.func22 (by kernel_rfl) rfl #[.int .i64 5, .int .i64 3] rfl (by (try simp only [List.map_toArray, List.map_cons, List.map_nil]); first | done | rfl | (simp only [List.length_drop, List.length_take]; rfl)) ?_; (with_reducible refine (ring_Root.calls k 5 3 t3666 t3667 _ A48.out).mono ?_); rintro e w80 ⟨rfl, hb⟩; refine ⟨_, rfl, ?_⟩; have n0_ := Aside0.mk (below_step (by repeat (first | (with_reducible first | exact HB.out | apply below_alloc | apply pw_below_drewN | apply below_drew1) | exact HB.out)) hb); clear HB; have HB := n0_; clear n0_; (try clear hb)) | ((with_reducible refine gate_callee (f := 22) rfl ?_); refine goesL_ (some 182) rfl rfl Try.func22 (by kernel_rfl) rfl #[.int .i64 6, .int .i64 0] rfl (by (try simp only [List.map_toArray, List.map_cons, List.map_nil]); first | done | rfl | (simp only [List.length_drop, List.length_take]; rfl)) ?_; (with_reducible refine (ring_Root.calls k 6 0 t3668 t3669 _ A49.out).mono ?_); rintro e w81 ⟨rfl, hb⟩; refine ⟨_, rfl, ?_⟩; have n0_ := Aside0.mk (below_step (by repeat (first | (with_reducible first | exact HB.out | apply below_alloc | apply pw_below_drewN | apply below_drew1) | exact HB.out)) hb); clear HB; have HB := n0_; clear n0_; (try clear hb)) | ((with_reducible refine gate_callee (f := 16) rfl ?_); refine goesL_ (some 186) rfl rfl Try.func16 (by kernel_rfl) rfl #[.int .i64 1] rfl (by (try simp only [List.map_toArray, List.map_cons, List.map_nil]); first | done | rfl | (simp only [List.length_drop, List.length_take]; rfl)) ?_; (with_reducible refine (ring_Factors.calls k 1 t3670 t3671 _ A50.out).mono ?_); rintro e w82 ⟨v3672, rfl, ho0, hb⟩; refine ⟨_, rfl, ?_⟩; have n0_ := Aside0.mk (Kd.R_lower ho0 (below_size (by repeat (first | (with_reducible first | exact HB.out | apply below_alloc | apply pw_below_drewN | apply below_drew1) | exact HB.out)))); have n1_ := Aside0.mk (below_step (by repeat (first | (with_reducible first | exact HB.out | apply below_alloc | apply pw_below_drewN | apply below_drew1) | exact HB.out)) hb); clear HB; have HO3673 := n0_; have HB := n1_; clear n0_ n1_; (try clear hb); (try clear ho0)) | ((with_reducible refine gate_callee (f := 16) rfl ?_); refine goesL_ (some 190) rfl rfl Try.func16 (by kernel_rfl) rfl #[.int .i64 0] rfl (by (try simp only [List.map_toArray, List.map_cons, List.map_nil]); first | done | rfl | (simp only [List.length_drop, List.length_take]; rfl)) ?_; (with_reducible refine (ring_Factors.calls k 0 t3674 t3675 _ A51.out).mono ?_); rintro e w83 ⟨v3676, rfl, ho0, hb⟩; refine ⟨_, rfl, ?_⟩; have n0_ := Aside0.mk (Kd.R_elder' (by (with_reducible repeat (first | apply Kd.R_alloc | apply Kd.R_drewN | apply Kd.R_drew)); exact HO3673.out) (Kd.R_base ho0) hb); have n1_ := Aside0.mk (Kd.R_lower (Kd.R_new' ho0 (Kd.R_lt (by (with_reducible repeat (first | apply Kd.R_alloc | apply Kd.R_drewN | apply Kd.R_drew)); exact HO3673.out))) (below_size (by repeat (first | (with_reducible first | exact HB.out | apply below_alloc | apply pw_below_drewN | apply below_drew1) | exact HB.out)))); have n2_ := Aside0.mk (below_step (by repeat (first | (with_reducible first | exact HB.out | apply below_alloc | apply pw_below_drewN | apply below_drew1) | exact HB.out)) hb); clear HO3673; clear HB; have HO3673 := n0_; have HO3677 := n1_; have HB := n2_; clear n0_ n1_ n2_; (try clear hb); (try clear ho0)) | ((with_reducible refine gate_callee (f := 16) rfl ?_); refine goesL_ (some 194) rfl rfl Try.func16 (by kernel_rfl) rfl #[.int .i64 2000000001] rfl (by (try simp only [List.map_toArray, List.map_cons, List.map_nil]); first | done | rfl | (simp only [List.length_drop, List.length_take]; rfl)) ?_; (with_reducible refine (ring_Factors.calls k 2000000001 t3678 t3679 _ A52.out).mono ?_); rintro e w84 ⟨v3680, rfl, ho0, hb⟩; refine ⟨_, rfl, ?_⟩; have n0_ := Aside0.mk (Kd.R_elder' (by (with_reducible repeat (first | apply Kd.R_alloc | apply Kd.R_drewN | apply Kd.R_drew)); exact HO3673.out) (Kd.R_base ho0) hb); have n1_ := Aside0.mk (Kd.R_lower (Kd.R_new' ho0 (Kd.R_lt (by (with_reducible repeat (first | apply Kd.R_alloc | apply Kd.R_drewN | apply Kd.R_drew)); exact HO3673.out))) (below_size (by repeat (first | (with_reducible first | exact HB.out | apply below_alloc | apply pw_below_drewN | apply below_drew1) | exact HB.out)))); have n2_ := Aside0.mk (below_step (by repeat (first | (with_reducible first | exact HB.out | apply below_alloc | apply pw_below_drewN | apply below_drew1) | exact HB.out)) hb); clear HO3673; clear HB; have HO3673 := n0_; have HO3681 := n1_; have HB := n2_; clear n0_ n1_ n2_; (try clear hb); (try clear ho0)) | ((with_reducible refine gate_callee (f := 16) rfl ?_); refine goesL_ (some 198) rfl rfl Try.func16 (by kernel_rfl) rfl #[.int .i64 1999999973] rfl (by (try simp only [List.map_toArray, List.map_cons, List.map_nil]); first | done | rfl | (simp only [List.length_drop, List.length_take]; rfl)) ?_; (with_reducible refine (ring_Factors.calls k 1999999973 t3682 t3683 _ A53.out).mono ?_); rintro e w85 ⟨v3684, rfl, ho0, hb⟩; refine ⟨_, rfl, ?_⟩; have n0_ := Aside0.mk (Kd.R_elder' (by (with_reducible repeat (first | apply Kd.R_alloc | apply Kd.R_drewN | apply Kd.R_drew)); exact HO3673.out) (Kd.R_base ho0) hb); have n1_ := Aside0.mk (Kd.R_lower (Kd.R_new' ho0 (Kd.R_lt (by (with_reducible repeat (first | apply Kd.R_alloc | apply Kd.R_drewN | apply Kd.R_drew)); exact HO3673.out))) (below_size (by repeat (first | (with_reducible first | exact HB.out | apply below_alloc | apply pw_below_drewN | apply below_drew1) | exact HB.out)))); have n2_ := Aside0.mk (below_step (by repeat (first | (with_reducible first | exact HB.out | apply below_alloc | apply pw_below_drewN | apply below_drew1) | exact HB.out)) hb); clear HO3673; clear HB; have HO3673 := n0_; have HO3685 := n1_; have HB := n2_; clear n0_ n1_ n2_; (try clear hb); (try clear ho0); obtain ⟨Ao86, co86, eo86⟩ := Kd.R_slice HO3673.out; subst eo86) | ((with_reducible refine gate_dst (N := 262) rfl ?_); (try (refine gate_guard (by rfl) ?_; dsimp only)); refine Kd.R_lit (Kd.int .i64) _ 2 ?hg (N := 262) ?hd (xs := ([1999999973] : List Int)) (inner := [.int .i64 1999999973]) (ok := fun _ => True) (okp := fun _ => True) ?hr ?hp (fun _ hk => hk) trivial (Below.refl _ _) (Nat.le_refl _) (by simp) ?_; (case hd => rfl); (case hg => rfl); (case hr => first | (go_simp; done) | (go_simp; rfl)); (case hp => exact (Reps.one (show Kd.M (Kd.int .i64) _ _ _ 1999999973 [.int .i64 1999999973] from rfl) (Reps.none _ _))); intro v3687 w87 ho88 hb hg_ hnew_; clear hg_ hnew_; (first | rw [← Ny3686.out] at ho88 | (simp only [Int.reduceToNat] at ho88; rw [← Ny3686.out] at ho88)); have n0_ := Aside0.mk (Kd.R_elder' (by (with_reducible repeat (first | apply Kd.R_alloc | apply Kd.R_drewN | apply Kd.R_drew)); exact HO3685.out) (Kd.R_base ho88) hb); have n1_ := Aside0.mk (Kd.R_lower (Kd.R_new' ho88 (Kd.R_lt (by (with_reducible repeat (first | apply Kd.R_alloc | apply Kd.R_drewN | apply Kd.R_drew)); exact HO3685.out))) (below_size (by repeat (first | (with_reducible first | exact HB.out | apply below_alloc | apply pw_below_drewN | apply below_drew1) | exact HB.out)))); have n2_ := Aside0.mk (below_step (by repeat (first | (with_reducible first | exact HB.out | apply below_alloc | apply pw_below_drewN | apply below_drew1) | exact HB.out)) hb); clear HO3685; clear HB; have HO3685 := n0_; have HO3688 := n1_; have HB := n2_; clear n0_ n1_ n2_; clear hb ho88; obtain ⟨Ao89, co89, eo89⟩ := Kd.R_slice HO3685.out; subst eo89; obtain ⟨Ao90, co90, eo90⟩ := Kd.R_slice HO3688.out; subst eo90) | (go_at_call 24; (with_reducible refine (fringeref10_Same.calls k _ _ t3682 _ _ y3686 true _ ?side1 ?side2 ?side3 ?side4 A69.out).mono ?_); (case side1 => repeat (first | exact (Kd.R_reads' HO3685.out).2.2 | (with_reducible refine Kd.C_alloc ?_ _) | (with_reducible refine Kd.C_drewN ?_ _) | (with_reducible refine Kd.C_drew ?_))); (case side2 => exact (Kd.R_reads' HO3685.out).2.1); (case side3 => repeat (first | exact (Kd.R_reads' HO3688.out).2.2 | (with_reducible refine Kd.C_alloc ?_ _) | (with_reducible refine Kd.C_drewN ?_ _) | (with_reducible refine Kd.C_drew ?_))); (case side4 => exact (Kd.R_reads' HO3688.out).2.1); rintro e w' ⟨rfl, ⟨nd, rfl⟩⟩) | (go_at_call 26; (with_reducible refine (fringelaw10_alive.calls  t3690 _ A73.out).mono ?_); rintro e w91 ⟨rfl, hb⟩; have n0_ := Aside0.mk (below_step (by repeat (first | (with_reducible first | exact HB.out | apply below_alloc | apply pw_below_drewN | apply below_drew1) | exact HB.out)) hb); clear HB; have HB := n0_; clear n0_; (try clear hb)))
  go_ret
  exact ⟨by first | rfl | (simp [errW_none, errW_some] <;> rfl) | (simp [*, errW_none, errW_some] <;> rfl), by repeat (first | (with_reducible first | exact HB.out | apply below_alloc | apply pw_below_drewN | apply below_drew1) | exact HB.out)⟩
/-- THE ONE PURE STATEMENT of fringelaw10_RingNames: yours. -/
def fringelaw10_RingNames.Pure : Prop := ∃ k, fringelaw10_RingNames.f k  = some true
theorem fringelaw10_RingNames.walk (P : fringelaw10_RingNames.Pure)  (w : World)  :
    Calls Try.prog 8 #[] w fun e w' => e = .returned (.bool true) ∧ Below w.heap.size w w' := by
  obtain ⟨k, h⟩ := P  
  refine (fringelaw10_RingNames.calls k  true w rfl h).mono ?_
  rintro e w' ⟨rfl, hd⟩
  exact ⟨rfl, hd⟩

end Go.Proofs.Ytehbmpdmdfiagaa.PAll
