-- Written by a program of this session, after the kit's print
import Derived.Test.YtehbmpdmdfiagaaPAllx0
import Derived.Test.YtehbmpdmdfiagaaPAllx1
import Derived.Test.YtehbmpdmdfiagaaPAllx2
import Derived.Test.YtehbmpdmdfiagaaPAllx4
namespace Go.Proofs.Ytehbmpdmdfiagaa.PAll
open Go.RowKit Go.Proofs.YtehbmpdmdfiagaaW.PrintWords Go.Proofs.YtehbmpdmdfiagaaW.PrintLast Go.Proofs.YtehbmpdmdfiagaaW.PrintMore
attribute [local go_sem] max2_int min2_int max_two min_two max_three min_three max_four min_four   -- for this text's walks alone
set_option linter.unusedVariables false
set_option linter.unusedSimpArgs false

/-! ### fringelaw10_RingFactors: function 7 -/
mutual
def fringelaw10_RingFactors.j0 : Nat → Int → Int → Bool → Option (Bool)
  | 0, _, _, _ => none
  | k + 1, x0, x1, x30 => if x30 = true then ((fringelaw10_alive.f).bind fun t261 => (some t261)) else ((ring_Factors.f k x0).bind fun bt262 => ((ring_Factors.f k x1).bind fun bt266 => ((ring_Factors.f k (wrap64 (x0 * x1))).bind fun bt270 => (if bt262.2 = 0 then (if bt266.2 = 0 then (if bt270.2 = 0 then (fringelaw10_RingFactors.j1 k x0 x1 bt262.1 bt266.1 bt270.1 ((bt270.1.length : Int) != (wrap64 ((bt262.1.length : Int) + (bt266.1.length : Int))))) else (fringelaw10_RingFactors.j1 k x0 x1 bt262.1 bt266.1 bt270.1 true)) else (fringelaw10_RingFactors.j1 k x0 x1 bt262.1 bt266.1 bt270.1 true)) else (fringelaw10_RingFactors.j1 k x0 x1 bt262.1 bt266.1 bt270.1 true)))))
def fringelaw10_RingFactors.j1 : Nat → Int → Int → List Int → List Int → List Int → Bool → Option (Bool)
  | 0, _, _, _, _, _, _ => none
  | k + 1, x0, x1, x5, x7, x9, x68 => if x68 = true then (some false) else (fringelaw10_RingFactors.l0 k x0 x1 x5 x7 x9 1 0)
def fringelaw10_RingFactors.l0 : Nat → Int → Int → List Int → List Int → List Int → Int → Int → Option (Bool)
  | 0, _, _, _, _, _, _, _ => none
  | k + 1, x0, x1, x5, x7, x9, x11, x12 => if x12 < (x9.length : Int) then (if 0 ≤ x12 then ((ring_Check.f k (rd x9 x12)).bind fun t276 => (if t276 = 0 then (if x12 > 0 then (if 0 ≤ (wrap64 (x12 - 1)) then (if (wrap64 (x12 - 1)) < (x9.length : Int) then (fringelaw10_RingFactors.j3 k x0 x1 x5 x7 x9 x11 x12 (decide ((rd x9 x12) < (rd x9 (wrap64 (x12 - 1)))))) else (none)) else (none)) else (fringelaw10_RingFactors.j3 k x0 x1 x5 x7 x9 x11 x12 false)) else (fringelaw10_RingFactors.j3 k x0 x1 x5 x7 x9 x11 x12 true))) else (none)) else (if x11 = (wrap64 (x0 * x1)) then ((fringelaw10_alive.f).bind fun t274 => (some t274)) else (some false))
def fringelaw10_RingFactors.j3 : Nat → Int → Int → List Int → List Int → List Int → Int → Int → Bool → Option (Bool)
  | 0, _, _, _, _, _, _, _, _ => none
  | k + 1, x0, x1, x5, x7, x9, x11, x12, x96 => if x96 = true then (some false) else (if 0 ≤ x12 then (if x12 < (x9.length : Int) then (fringelaw10_RingFactors.l1 k x0 x1 x5 x7 x9 (wrap64 (x11 * (rd x9 x12))) x12 0 0) else (none)) else (none))
def fringelaw10_RingFactors.l1 : Nat → Int → Int → List Int → List Int → List Int → Int → Int → Int → Int → Option (Bool)
  | 0, _, _, _, _, _, _, _, _, _ => none
  | k + 1, x0, x1, x5, x7, x9, x11, x12, x13, x14 => if x14 < (x5.length : Int) then (if 0 ≤ x14 then (if 0 ≤ x12 then (if x12 < (x9.length : Int) then (if (rd x5 x14) = (rd x9 x12) then (fringelaw10_RingFactors.l1 k x0 x1 x5 x7 x9 x11 x12 (wrap64 (x13 + 1)) (wrap64 (x14 + 1))) else (fringelaw10_RingFactors.l1 k x0 x1 x5 x7 x9 x11 x12 x13 (wrap64 (x14 + 1)))) else (none)) else (none)) else (none)) else (fringelaw10_RingFactors.l2 k x0 x1 x5 x7 x9 x11 x12 x13 0)
def fringelaw10_RingFactors.l2 : Nat → Int → Int → List Int → List Int → List Int → Int → Int → Int → Int → Option (Bool)
  | 0, _, _, _, _, _, _, _, _, _ => none
  | k + 1, x0, x1, x5, x7, x9, x11, x12, x13, x15 => if x15 < (x7.length : Int) then (if 0 ≤ x15 then (if 0 ≤ x12 then (if x12 < (x9.length : Int) then (if (rd x7 x15) = (rd x9 x12) then (fringelaw10_RingFactors.l2 k x0 x1 x5 x7 x9 x11 x12 (wrap64 (x13 + 1)) (wrap64 (x15 + 1))) else (fringelaw10_RingFactors.l2 k x0 x1 x5 x7 x9 x11 x12 x13 (wrap64 (x15 + 1)))) else (none)) else (none)) else (none)) else (fringelaw10_RingFactors.l3 k x0 x1 x5 x7 x9 x11 x12 x13 0)
def fringelaw10_RingFactors.l3 : Nat → Int → Int → List Int → List Int → List Int → Int → Int → Int → Int → Option (Bool)
  | 0, _, _, _, _, _, _, _, _, _ => none
  | k + 1, x0, x1, x5, x7, x9, x11, x12, x13, x16 => if x16 < (x9.length : Int) then (if 0 ≤ x16 then (if 0 ≤ x12 then (if x12 < (x9.length : Int) then (if (rd x9 x16) = (rd x9 x12) then (fringelaw10_RingFactors.l3 k x0 x1 x5 x7 x9 x11 x12 (wrap64 (x13 - 1)) (wrap64 (x16 + 1))) else (fringelaw10_RingFactors.l3 k x0 x1 x5 x7 x9 x11 x12 x13 (wrap64 (x16 + 1)))) else (none)) else (none)) else (none)) else (if x13 = 0 then (fringelaw10_RingFactors.l0 k x0 x1 x5 x7 x9 x11 (wrap64 (x12 + 1))) else (some false))
end
def fringelaw10_RingFactors.f (k : Nat) (a0 : Int) (a1 : Int) : Option (Bool) := if a0 < 1 then (fringelaw10_RingFactors.j0 k a0 a1 true) else (if a1 < 1 then (fringelaw10_RingFactors.j0 k a0 a1 true) else (if a0 > 44000 then (fringelaw10_RingFactors.j0 k a0 a1 true) else (fringelaw10_RingFactors.j0 k a0 a1 (decide (a1 > 44000)))))
theorem fringelaw10_RingFactors.mono_l : ∀ k, (∀ y0 y1 y2, LeO (fringelaw10_RingFactors.j0 k y0 y1 y2) (fringelaw10_RingFactors.j0 (k + 1) y0 y1 y2)) ∧ (∀ y0 y1 y2 y3 y4 y5, LeO (fringelaw10_RingFactors.j1 k y0 y1 y2 y3 y4 y5) (fringelaw10_RingFactors.j1 (k + 1) y0 y1 y2 y3 y4 y5)) ∧ (∀ y0 y1 y2 y3 y4 y5 y6, LeO (fringelaw10_RingFactors.l0 k y0 y1 y2 y3 y4 y5 y6) (fringelaw10_RingFactors.l0 (k + 1) y0 y1 y2 y3 y4 y5 y6)) ∧ (∀ y0 y1 y2 y3 y4 y5 y6 y7, LeO (fringelaw10_RingFactors.j3 k y0 y1 y2 y3 y4 y5 y6 y7) (fringelaw10_RingFactors.j3 (k + 1) y0 y1 y2 y3 y4 y5 y6 y7)) ∧ (∀ y0 y1 y2 y3 y4 y5 y6 y7 y8, LeO (fringelaw10_RingFactors.l1 k y0 y1 y2 y3 y4 y5 y6 y7 y8) (fringelaw10_RingFactors.l1 (k + 1) y0 y1 y2 y3 y4 y5 y6 y7 y8)) ∧ (∀ y0 y1 y2 y3 y4 y5 y6 y7 y8, LeO (fringelaw10_RingFactors.l2 k y0 y1 y2 y3 y4 y5 y6 y7 y8) (fringelaw10_RingFactors.l2 (k + 1) y0 y1 y2 y3 y4 y5 y6 y7 y8)) ∧ (∀ y0 y1 y2 y3 y4 y5 y6 y7 y8, LeO (fringelaw10_RingFactors.l3 k y0 y1 y2 y3 y4 y5 y6 y7 y8) (fringelaw10_RingFactors.l3 (k + 1) y0 y1 y2 y3 y4 y5 y6 y7 y8))
  | 0 => ⟨fun _ _ _ r h => by simp [fringelaw10_RingFactors.j0] at h, fun _ _ _ _ _ _ r h => by simp [fringelaw10_RingFactors.j1] at h, fun _ _ _ _ _ _ _ r h => by simp [fringelaw10_RingFactors.l0] at h, fun _ _ _ _ _ _ _ _ r h => by simp [fringelaw10_RingFactors.j3] at h, fun _ _ _ _ _ _ _ _ _ r h => by simp [fringelaw10_RingFactors.l1] at h, fun _ _ _ _ _ _ _ _ _ r h => by simp [fringelaw10_RingFactors.l2] at h, fun _ _ _ _ _ _ _ _ _ r h => by simp [fringelaw10_RingFactors.l3] at h⟩
  | k + 1 => by
    obtain ⟨ih0, ih1, ih2, ih3, ih4, ih5, ih6⟩ := fringelaw10_RingFactors.mono_l k
    refine ⟨?_, ?_, ?_, ?_, ?_, ?_, ?_⟩
    · intro y0 y1 y2
      unfold fringelaw10_RingFactors.j0
      repeat' first
      | (with_reducible exact ih0 _ _ _)
      | (with_reducible exact ih1 _ _ _ _ _ _)
      | (with_reducible exact ih2 _ _ _ _ _ _ _)
      | (with_reducible exact ih3 _ _ _ _ _ _ _ _)
      | (with_reducible exact ih4 _ _ _ _ _ _ _ _ _)
      | (with_reducible exact ih5 _ _ _ _ _ _ _ _ _)
      | (with_reducible exact ih6 _ _ _ _ _ _ _ _ _)
      | (with_reducible exact ring_Check.mono _ _)
      | (with_reducible exact ring_Factors.mono _ _)
      | (with_reducible exact LeO.refl _)
      | (with_reducible exact LeO.none _)
      | (with_reducible refine LeO.ite ?_ ?_)
      | (with_reducible refine LeO.bind ?_ (fun _ => ?_))
      | exact ih0 _ _ _
      | exact ih1 _ _ _ _ _ _
      | exact ih2 _ _ _ _ _ _ _
      | exact ih3 _ _ _ _ _ _ _ _
      | exact ih4 _ _ _ _ _ _ _ _ _
      | exact ih5 _ _ _ _ _ _ _ _ _
      | exact ih6 _ _ _ _ _ _ _ _ _
      | exact ring_Check.mono _ _
      | exact ring_Factors.mono _ _
      | exact LeO.none _
      | refine LeO.ite ?_ ?_
      | refine LeO.bind ?_ (fun _ => ?_)
    · intro y0 y1 y2 y3 y4 y5
      unfold fringelaw10_RingFactors.j1
      repeat' first
      | (with_reducible exact ih0 _ _ _)
      | (with_reducible exact ih1 _ _ _ _ _ _)
      | (with_reducible exact ih2 _ _ _ _ _ _ _)
      | (with_reducible exact ih3 _ _ _ _ _ _ _ _)
      | (with_reducible exact ih4 _ _ _ _ _ _ _ _ _)
      | (with_reducible exact ih5 _ _ _ _ _ _ _ _ _)
      | (with_reducible exact ih6 _ _ _ _ _ _ _ _ _)
      | (with_reducible exact ring_Check.mono _ _)
      | (with_reducible exact ring_Factors.mono _ _)
      | (with_reducible exact LeO.refl _)
      | (with_reducible exact LeO.none _)
      | (with_reducible refine LeO.ite ?_ ?_)
      | (with_reducible refine LeO.bind ?_ (fun _ => ?_))
      | exact ih0 _ _ _
      | exact ih1 _ _ _ _ _ _
      | exact ih2 _ _ _ _ _ _ _
      | exact ih3 _ _ _ _ _ _ _ _
      | exact ih4 _ _ _ _ _ _ _ _ _
      | exact ih5 _ _ _ _ _ _ _ _ _
      | exact ih6 _ _ _ _ _ _ _ _ _
      | exact ring_Check.mono _ _
      | exact ring_Factors.mono _ _
      | exact LeO.none _
      | refine LeO.ite ?_ ?_
      | refine LeO.bind ?_ (fun _ => ?_)
    · intro y0 y1 y2 y3 y4 y5 y6
      unfold fringelaw10_RingFactors.l0
      repeat' first
      | (with_reducible exact ih0 _ _ _)
      | (with_reducible exact ih1 _ _ _ _ _ _)
      | (with_reducible exact ih2 _ _ _ _ _ _ _)
      | (with_reducible exact ih3 _ _ _ _ _ _ _ _)
      | (with_reducible exact ih4 _ _ _ _ _ _ _ _ _)
      | (with_reducible exact ih5 _ _ _ _ _ _ _ _ _)
      | (with_reducible exact ih6 _ _ _ _ _ _ _ _ _)
      | (with_reducible exact ring_Check.mono _ _)
      | (with_reducible exact ring_Factors.mono _ _)
      | (with_reducible exact LeO.refl _)
      | (with_reducible exact LeO.none _)
      | (with_reducible refine LeO.ite ?_ ?_)
      | (with_reducible refine LeO.bind ?_ (fun _ => ?_))
      | exact ih0 _ _ _
      | exact ih1 _ _ _ _ _ _
      | exact ih2 _ _ _ _ _ _ _
      | exact ih3 _ _ _ _ _ _ _ _
      | exact ih4 _ _ _ _ _ _ _ _ _
      | exact ih5 _ _ _ _ _ _ _ _ _
      | exact ih6 _ _ _ _ _ _ _ _ _
      | exact ring_Check.mono _ _
      | exact ring_Factors.mono _ _
      | exact LeO.none _
      | refine LeO.ite ?_ ?_
      | refine LeO.bind ?_ (fun _ => ?_)
    · intro y0 y1 y2 y3 y4 y5 y6 y7
      unfold fringelaw10_RingFactors.j3
      repeat' first
      | (with_reducible exact ih0 _ _ _)
      | (with_reducible exact ih1 _ _ _ _ _ _)
      | (with_reducible exact ih2 _ _ _ _ _ _ _)
      | (with_reducible exact ih3 _ _ _ _ _ _ _ _)
      | (with_reducible exact ih4 _ _ _ _ _ _ _ _ _)
      | (with_reducible exact ih5 _ _ _ _ _ _ _ _ _)
      | (with_reducible exact ih6 _ _ _ _ _ _ _ _ _)
      | (with_reducible exact ring_Check.mono _ _)
      | (with_reducible exact ring_Factors.mono _ _)
      | (with_reducible exact LeO.refl _)
      | (with_reducible exact LeO.none _)
      | (with_reducible refine LeO.ite ?_ ?_)
      | (with_reducible refine LeO.bind ?_ (fun _ => ?_))
      | exact ih0 _ _ _
      | exact ih1 _ _ _ _ _ _
      | exact ih2 _ _ _ _ _ _ _
      | exact ih3 _ _ _ _ _ _ _ _
      | exact ih4 _ _ _ _ _ _ _ _ _
      | exact ih5 _ _ _ _ _ _ _ _ _
      | exact ih6 _ _ _ _ _ _ _ _ _
      | exact ring_Check.mono _ _
      | exact ring_Factors.mono _ _
      | exact LeO.none _
      | refine LeO.ite ?_ ?_
      | refine LeO.bind ?_ (fun _ => ?_)
    · intro y0 y1 y2 y3 y4 y5 y6 y7 y8
      unfold fringelaw10_RingFactors.l1
      repeat' first
      | (with_reducible exact ih0 _ _ _)
      | (with_reducible exact ih1 _ _ _ _ _ _)
      | (with_reducible exact ih2 _ _ _ _ _ _ _)
      | (with_reducible exact ih3 _ _ _ _ _ _ _ _)
      | (with_reducible exact ih4 _ _ _ _ _ _ _ _ _)
      | (with_reducible exact ih5 _ _ _ _ _ _ _ _ _)
      | (with_reducible exact ih6 _ _ _ _ _ _ _ _ _)
      | (with_reducible exact ring_Check.mono _ _)
      | (with_reducible exact ring_Factors.mono _ _)
      | (with_reducible exact LeO.refl _)
      | (with_reducible exact LeO.none _)
      | (with_reducible refine LeO.ite ?_ ?_)
      | (with_reducible refine LeO.bind ?_ (fun _ => ?_))
      | exact ih0 _ _ _
      | exact ih1 _ _ _ _ _ _
      | exact ih2 _ _ _ _ _ _ _
      | exact ih3 _ _ _ _ _ _ _ _
      | exact ih4 _ _ _ _ _ _ _ _ _
      | exact ih5 _ _ _ _ _ _ _ _ _
      | exact ih6 _ _ _ _ _ _ _ _ _
      | exact ring_Check.mono _ _
      | exact ring_Factors.mono _ _
      | exact LeO.none _
      | refine LeO.ite ?_ ?_
      | refine LeO.bind ?_ (fun _ => ?_)
    · intro y0 y1 y2 y3 y4 y5 y6 y7 y8
      unfold fringelaw10_RingFactors.l2
      repeat' first
      | (with_reducible exact ih0 _ _ _)
      | (with_reducible exact ih1 _ _ _ _ _ _)
      | (with_reducible exact ih2 _ _ _ _ _ _ _)
      | (with_reducible exact ih3 _ _ _ _ _ _ _ _)
      | (with_reducible exact ih4 _ _ _ _ _ _ _ _ _)
      | (with_reducible exact ih5 _ _ _ _ _ _ _ _ _)
      | (with_reducible exact ih6 _ _ _ _ _ _ _ _ _)
      | (with_reducible exact ring_Check.mono _ _)
      | (with_reducible exact ring_Factors.mono _ _)
      | (with_reducible exact LeO.refl _)
      | (with_reducible exact LeO.none _)
      | (with_reducible refine LeO.ite ?_ ?_)
      | (with_reducible refine LeO.bind ?_ (fun _ => ?_))
      | exact ih0 _ _ _
      | exact ih1 _ _ _ _ _ _
      | exact ih2 _ _ _ _ _ _ _
      | exact ih3 _ _ _ _ _ _ _ _
      | exact ih4 _ _ _ _ _ _ _ _ _
      | exact ih5 _ _ _ _ _ _ _ _ _
      | exact ih6 _ _ _ _ _ _ _ _ _
      | exact ring_Check.mono _ _
      | exact ring_Factors.mono _ _
      | exact LeO.none _
      | refine LeO.ite ?_ ?_
      | refine LeO.bind ?_ (fun _ => ?_)
    · intro y0 y1 y2 y3 y4 y5 y6 y7 y8
      unfold fringelaw10_RingFactors.l3
      repeat' first
      | (with_reducible exact ih0 _ _ _)
      | (with_reducible exact ih1 _ _ _ _ _ _)
      | (with_reducible exact ih2 _ _ _ _ _ _ _)
      | (with_reducible exact ih3 _ _ _ _ _ _ _ _)
      | (with_reducible exact ih4 _ _ _ _ _ _ _ _ _)
      | (with_reducible exact ih5 _ _ _ _ _ _ _ _ _)
      | (with_reducible exact ih6 _ _ _ _ _ _ _ _ _)
      | (with_reducible exact ring_Check.mono _ _)
      | (with_reducible exact ring_Factors.mono _ _)
      | (with_reducible exact LeO.refl _)
      | (with_reducible exact LeO.none _)
      | (with_reducible refine LeO.ite ?_ ?_)
      | (with_reducible refine LeO.bind ?_ (fun _ => ?_))
      | exact ih0 _ _ _
      | exact ih1 _ _ _ _ _ _
      | exact ih2 _ _ _ _ _ _ _
      | exact ih3 _ _ _ _ _ _ _ _
      | exact ih4 _ _ _ _ _ _ _ _ _
      | exact ih5 _ _ _ _ _ _ _ _ _
      | exact ih6 _ _ _ _ _ _ _ _ _
      | exact ring_Check.mono _ _
      | exact ring_Factors.mono _ _
      | exact LeO.none _
      | refine LeO.ite ?_ ?_
      | refine LeO.bind ?_ (fun _ => ?_)
theorem fringelaw10_RingFactors.mono : ∀ a0 a1 k, LeO (fringelaw10_RingFactors.f k a0 a1) (fringelaw10_RingFactors.f (k + 1) a0 a1) := by
  intro a0 a1 k
  obtain ⟨ih0, ih1, ih2, ih3, ih4, ih5, ih6⟩ := fringelaw10_RingFactors.mono_l k
  unfold fringelaw10_RingFactors.f
  repeat' first
      | (with_reducible exact ih0 _ _ _)
      | (with_reducible exact ih1 _ _ _ _ _ _)
      | (with_reducible exact ih2 _ _ _ _ _ _ _)
      | (with_reducible exact ih3 _ _ _ _ _ _ _ _)
      | (with_reducible exact ih4 _ _ _ _ _ _ _ _ _)
      | (with_reducible exact ih5 _ _ _ _ _ _ _ _ _)
      | (with_reducible exact ih6 _ _ _ _ _ _ _ _ _)
      | (with_reducible exact ring_Check.mono _ _)
      | (with_reducible exact ring_Factors.mono _ _)
      | (with_reducible exact LeO.refl _)
      | (with_reducible exact LeO.none _)
      | (with_reducible refine LeO.ite ?_ ?_)
      | (with_reducible refine LeO.bind ?_ (fun _ => ?_))
      | exact ih0 _ _ _
      | exact ih1 _ _ _ _ _ _
      | exact ih2 _ _ _ _ _ _ _
      | exact ih3 _ _ _ _ _ _ _ _
      | exact ih4 _ _ _ _ _ _ _ _ _
      | exact ih5 _ _ _ _ _ _ _ _ _
      | exact ih6 _ _ _ _ _ _ _ _ _
      | exact ring_Check.mono _ _
      | exact ring_Factors.mono _ _
      | exact LeO.none _
      | refine LeO.ite ?_ ?_
      | refine LeO.bind ?_ (fun _ => ?_)
set_option maxHeartbeats 8000000 in
set_option maxRecDepth 100000 in
theorem fringelaw10_RingFactors.calls (k : Nat) (a0 : Int) (a1 : Int) (r : Bool) (w : World) (hrt : r = true) (h : fringelaw10_RingFactors.f k a0 a1 = some r) :
    Calls Try.prog 7 #[.int .i64 a0, .int .i64 a1] w fun e w' => e = .returned (.bool r) ∧ Below w.heap.size w w' := by
  have HB := Aside0.mk (Below.refl w.heap.size w)
  have HRT := Aside0.mk hrt
  clear hrt
  have H : (if a0 < 1 then (fringelaw10_RingFactors.j0 k a0 a1 true) else (if a1 < 1 then (fringelaw10_RingFactors.j0 k a0 a1 true) else (if a0 > 44000 then (fringelaw10_RingFactors.j0 k a0 a1 true) else (fringelaw10_RingFactors.j0 k a0 a1 (decide (a1 > 44000)))))) = some r := h
  clear h
  have HC3 := Aside0.mk H
  clear H
  go_enter Try.func7, Try.ntmps7
  go_upto_region 1 with (fail)
  repeat (go_quiet (fail); go_upto_region 1 with (fail))
  go_cut [30] (fun v30 wc => ∃ (kq : Nat) (x30_2 : Bool), v30 = .bool x30_2 ∧ Aside0 (fringelaw10_RingFactors.j0 kq a0 a1 x30_2 = some r) ∧ Aside0 (kq ≤ k) ∧ Aside0 (Below w.heap.size w wc))
  case first =>
    have H := HC3.out
    clear HC3
    by_cases c4 : a0 < 1
    · rw [if_pos c4] at H
      have c4b0 : decide (a0 < 1) = true := decide_eq_true c4
      clear c4
      (first | rw [c4b0] | (simp only [i64_w, i32_w]; rw [c4b0]) | skip)
      have H' := Aside0.mk H
      clear H
      go_wp2
      repeat (go_quiet (fail); try go_wp2)
      go_meet
      case rel => exact ⟨_, (true), (by first | rfl | (simp; done) | (simp [*]; done)), H', ⟨by first | omega | exact Nat.le_refl _⟩, ⟨by repeat (first | (with_reducible first | exact HB.out | apply below_alloc | apply pw_below_drewN | apply below_drew1) | exact HB.out)⟩⟩
    · rw [if_neg c4] at H
      have c4b0 : decide (a0 < 1) = false := decide_eq_false c4
      clear c4
      (first | rw [c4b0] | (simp only [i64_w, i32_w]; rw [c4b0]) | skip)
      by_cases c5 : a1 < 1
      · rw [if_pos c5] at H
        have c5b0 : decide (a1 < 1) = true := decide_eq_true c5
        clear c5
        have H' := Aside0.mk H
        clear H
        go_wp2
        repeat (go_quiet (fail); try go_wp2)
        go_meet
        case rel => exact ⟨_, (true), (by first | rfl | (simp; done) | (simp [*]; done)), H', ⟨by first | omega | exact Nat.le_refl _⟩, ⟨by repeat (first | (with_reducible first | exact HB.out | apply below_alloc | apply pw_below_drewN | apply below_drew1) | exact HB.out)⟩⟩
      · rw [if_neg c5] at H
        have c5b0 : decide (a1 < 1) = false := decide_eq_false c5
        clear c5
        by_cases c6 : a0 > 44000
        · rw [if_pos c6] at H
          have c6b0 : decide (44000 < a0) = true := decide_eq_true c6
          clear c6
          have H' := Aside0.mk H
          clear H
          go_wp2
          repeat (go_quiet (fail); try go_wp2)
          go_meet
          case rel => exact ⟨_, (true), (by first | rfl | (simp; done) | (simp [*]; done)), H', ⟨by first | omega | exact Nat.le_refl _⟩, ⟨by repeat (first | (with_reducible first | exact HB.out | apply below_alloc | apply pw_below_drewN | apply below_drew1) | exact HB.out)⟩⟩
        · rw [if_neg c6] at H
          have c6b0 : decide (44000 < a0) = false := decide_eq_false c6
          clear c6
          have H' := Aside0.mk H
          clear H
          go_wp2
          repeat (go_quiet (fail); try go_wp2)
          go_meet
          case rel => exact ⟨_, (decide (a1 > 44000)), (by first | rfl | (simp; done) | (simp [*]; done)), H', ⟨by first | omega | exact Nat.le_refl _⟩, ⟨by repeat (first | (with_reducible first | exact HB.out | apply below_alloc | apply pw_below_drewN | apply below_drew1) | exact HB.out)⟩⟩
  case rest =>
    clear HC3
    try clear p2
    try clear c4
    try clear c4b0
    try clear c5
    try clear c5b0
    try clear c6
    try clear c6b0
    obtain ⟨kq, x30_2, rfl, HA, HJ2, HB⟩ := hcut
    cases kq with
    | zero => exact absurd HA.out (by simp [fringelaw10_RingFactors.j0])
    | succ kj2 =>
      have H := HA.out
      clear HA
      simp only [fringelaw10_RingFactors.j0] at H
      by_cases c7 : x30_2 = true
      · subst c7
        have H1 : ((fringelaw10_alive.f).bind fun t261 => (some t261)) = some r := by rw [if_pos rfl] at H; exact H
        clear H
        have H := H1
        clear H1
        replace H := Option.bind_eq_some_iff.mp H
        obtain ⟨t261, A80, H⟩ := H
        replace H : (some t261) = some r := H
        have A8 := Aside0.mk A80
        clear A80
        obtain rfl := Option.some.inj H
        go_wp2_with (first | (go_at_call 26; (with_reducible refine (fringelaw10_alive.calls  t261 _ A8.out).mono ?_); rintro e w9 ⟨rfl, hb⟩; have n0_ := Aside0.mk (below_step (by repeat (first | (with_reducible first | exact HB.out | apply below_alloc | apply pw_below_drewN | apply below_drew1) | exact HB.out)) hb); clear HB; have HB := n0_; clear n0_; (try clear hb); (try clear hb2); (try clear hk); (try clear hi)))
        repeat (go_quiet (first | (go_at_call 26; (with_reducible refine (fringelaw10_alive.calls  t261 _ A8.out).mono ?_); rintro e w9 ⟨rfl, hb⟩; have n0_ := Aside0.mk (below_step (by repeat (first | (with_reducible first | exact HB.out | apply below_alloc | apply pw_below_drewN | apply below_drew1) | exact HB.out)) hb); clear HB; have HB := n0_; clear n0_; (try clear hb); (try clear hb2); (try clear hk); (try clear hi))); try go_wp2_with (first | (go_at_call 26; (with_reducible refine (fringelaw10_alive.calls  t261 _ A8.out).mono ?_); rintro e w9 ⟨rfl, hb⟩; have n0_ := Aside0.mk (below_step (by repeat (first | (with_reducible first | exact HB.out | apply below_alloc | apply pw_below_drewN | apply below_drew1) | exact HB.out)) hb); clear HB; have HB := n0_; clear n0_; (try clear hb); (try clear hb2); (try clear hk); (try clear hi))))
        go_ret
        exact ⟨by first | rfl | (simp [errW_none, errW_some] <;> rfl) | (simp [*, errW_none, errW_some] <;> rfl), by repeat (first | (with_reducible first | exact HB.out | apply below_alloc | apply pw_below_drewN | apply below_drew1) | exact HB.out)⟩
      · replace c7 := Bool.eq_false_iff.mpr c7
        subst c7
        have H1 : ((ring_Factors.f kj2 a0).bind fun bt262 => ((ring_Factors.f kj2 a1).bind fun bt266 => ((ring_Factors.f kj2 (wrap64 (a0 * a1))).bind fun bt270 => (if bt262.2 = 0 then (if bt266.2 = 0 then (if bt270.2 = 0 then (fringelaw10_RingFactors.j1 kj2 a0 a1 bt262.1 bt266.1 bt270.1 ((bt270.1.length : Int) != (wrap64 ((bt262.1.length : Int) + (bt266.1.length : Int))))) else (fringelaw10_RingFactors.j1 kj2 a0 a1 bt262.1 bt266.1 bt270.1 true)) else (fringelaw10_RingFactors.j1 kj2 a0 a1 bt262.1 bt266.1 bt270.1 true)) else (fringelaw10_RingFactors.j1 kj2 a0 a1 bt262.1 bt266.1 bt270.1 true))))) = some r := by rw [if_neg (show ¬ (false = true) by decide)] at H; exact H
        clear H
        have H := H1
        clear H1
        replace H := Option.bind_eq_some_iff.mp H
        obtain ⟨⟨t262, t263⟩, A100, H⟩ := H
        replace H : ((ring_Factors.f kj2 a1).bind fun bt266 => ((ring_Factors.f kj2 (wrap64 (a0 * a1))).bind fun bt270 => (if t263 = 0 then (if bt266.2 = 0 then (if bt270.2 = 0 then (fringelaw10_RingFactors.j1 kj2 a0 a1 t262 bt266.1 bt270.1 ((bt270.1.length : Int) != (wrap64 ((t262.length : Int) + (bt266.1.length : Int))))) else (fringelaw10_RingFactors.j1 kj2 a0 a1 t262 bt266.1 bt270.1 true)) else (fringelaw10_RingFactors.j1 kj2 a0 a1 t262 bt266.1 bt270.1 true)) else (fringelaw10_RingFactors.j1 kj2 a0 a1 t262 bt266.1 bt270.1 true)))) = some r := H
        have A10 := Aside0.mk A100
        clear A100
        replace H := Option.bind_eq_some_iff.mp H
        obtain ⟨⟨t266, t267⟩, A110, H⟩ := H
        replace H : ((ring_Factors.f kj2 (wrap64 (a0 * a1))).bind fun bt270 => (if t263 = 0 then (if t267 = 0 then (if bt270.2 = 0 then (fringelaw10_RingFactors.j1 kj2 a0 a1 t262 t266 bt270.1 ((bt270.1.length : Int) != (wrap64 ((t262.length : Int) + (t266.length : Int))))) else (fringelaw10_RingFactors.j1 kj2 a0 a1 t262 t266 bt270.1 true)) else (fringelaw10_RingFactors.j1 kj2 a0 a1 t262 t266 bt270.1 true)) else (fringelaw10_RingFactors.j1 kj2 a0 a1 t262 t266 bt270.1 true))) = some r := H
        have A11 := Aside0.mk A110
        clear A110
        replace H := Option.bind_eq_some_iff.mp H
        obtain ⟨⟨t270, t271⟩, A120, H⟩ := H
        replace H : (if t263 = 0 then (if t267 = 0 then (if t271 = 0 then (fringelaw10_RingFactors.j1 kj2 a0 a1 t262 t266 t270 ((t270.length : Int) != (wrap64 ((t262.length : Int) + (t266.length : Int))))) else (fringelaw10_RingFactors.j1 kj2 a0 a1 t262 t266 t270 true)) else (fringelaw10_RingFactors.j1 kj2 a0 a1 t262 t266 t270 true)) else (fringelaw10_RingFactors.j1 kj2 a0 a1 t262 t266 t270 true)) = some r := H
        have A12 := Aside0.mk A120
        clear A120
        have HC13 := Aside0.mk H
        clear H
        go_upto_region 6 with (first | (go_at_call 16; (with_reducible refine (ring_Factors.calls kj2 a0 t262 t263 _ A10.out).mono ?_); rintro e w14 ⟨v264, rfl, ho0, hb⟩; have n0_ := Aside0.mk (Kd.R_lower ho0 (below_size (by repeat (first | (with_reducible first | exact HB.out | apply below_alloc | apply pw_below_drewN | apply below_drew1) | exact HB.out)))); have n1_ := Aside0.mk (below_step (by repeat (first | (with_reducible first | exact HB.out | apply below_alloc | apply pw_below_drewN | apply below_drew1) | exact HB.out)) hb); clear HB; have HO265 := n0_; have HB := n1_; clear n0_ n1_; (try clear hb); (try clear hb2); (try clear hk); (try clear hi); (try clear ho0)) | (go_at_call 16; (with_reducible refine (ring_Factors.calls kj2 a1 t266 t267 _ A11.out).mono ?_); rintro e w15 ⟨v268, rfl, ho0, hb⟩; have n0_ := Aside0.mk (Kd.R_elder' (by (with_reducible repeat (first | apply Kd.R_alloc | apply Kd.R_drewN | apply Kd.R_drew)); exact HO265.out) (Kd.R_base ho0) hb); have n1_ := Aside0.mk (Kd.R_lower (Kd.R_new' ho0 (Kd.R_lt (by (with_reducible repeat (first | apply Kd.R_alloc | apply Kd.R_drewN | apply Kd.R_drew)); exact HO265.out))) (below_size (by repeat (first | (with_reducible first | exact HB.out | apply below_alloc | apply pw_below_drewN | apply below_drew1) | exact HB.out)))); have n2_ := Aside0.mk (below_step (by repeat (first | (with_reducible first | exact HB.out | apply below_alloc | apply pw_below_drewN | apply below_drew1) | exact HB.out)) hb); clear HO265; clear HB; have HO265 := n0_; have HO269 := n1_; have HB := n2_; clear n0_ n1_ n2_; (try clear hb); (try clear hb2); (try clear hk); (try clear hi); (try clear ho0)) | (go_at_call 16; (with_reducible refine (ring_Factors.calls kj2 (wrap64 (a0 * a1)) t270 t271 _ A12.out).mono ?_); rintro e w16 ⟨v272, rfl, ho0, hb⟩; have n0_ := Aside0.mk (Kd.R_elder' (by (with_reducible repeat (first | apply Kd.R_alloc | apply Kd.R_drewN | apply Kd.R_drew)); exact HO265.out) (Kd.R_base ho0) hb); have n1_ := Aside0.mk (Kd.R_elder' (by (with_reducible repeat (first | apply Kd.R_alloc | apply Kd.R_drewN | apply Kd.R_drew)); exact HO269.out) (Kd.R_base ho0) hb); have n2_ := Aside0.mk (Kd.R_lower (Kd.R_new' (Kd.R_new' ho0 (Kd.R_lt (by (with_reducible repeat (first | apply Kd.R_alloc | apply Kd.R_drewN | apply Kd.R_drew)); exact HO265.out))) (Kd.R_lt (by (with_reducible repeat (first | apply Kd.R_alloc | apply Kd.R_drewN | apply Kd.R_drew)); exact HO269.out))) (below_size (by repeat (first | (with_reducible first | exact HB.out | apply below_alloc | apply pw_below_drewN | apply below_drew1) | exact HB.out)))); have n3_ := Aside0.mk (below_step (by repeat (first | (with_reducible first | exact HB.out | apply below_alloc | apply pw_below_drewN | apply below_drew1) | exact HB.out)) hb); clear HO265; clear HO269; clear HB; have HO265 := n0_; have HO269 := n1_; have HO273 := n2_; have HB := n3_; clear n0_ n1_ n2_ n3_; (try clear hb); (try clear hb2); (try clear hk); (try clear hi); (try clear ho0)))
        repeat (go_quiet (first | (go_at_call 16; (with_reducible refine (ring_Factors.calls kj2 a0 t262 t263 _ A10.out).mono ?_); rintro e w14 ⟨v264, rfl, ho0, hb⟩; have n0_ := Aside0.mk (Kd.R_lower ho0 (below_size (by repeat (first | (with_reducible first | exact HB.out | apply below_alloc | apply pw_below_drewN | apply below_drew1) | exact HB.out)))); have n1_ := Aside0.mk (below_step (by repeat (first | (with_reducible first | exact HB.out | apply below_alloc | apply pw_below_drewN | apply below_drew1) | exact HB.out)) hb); clear HB; have HO265 := n0_; have HB := n1_; clear n0_ n1_; (try clear hb); (try clear hb2); (try clear hk); (try clear hi); (try clear ho0)) | (go_at_call 16; (with_reducible refine (ring_Factors.calls kj2 a1 t266 t267 _ A11.out).mono ?_); rintro e w15 ⟨v268, rfl, ho0, hb⟩; have n0_ := Aside0.mk (Kd.R_elder' (by (with_reducible repeat (first | apply Kd.R_alloc | apply Kd.R_drewN | apply Kd.R_drew)); exact HO265.out) (Kd.R_base ho0) hb); have n1_ := Aside0.mk (Kd.R_lower (Kd.R_new' ho0 (Kd.R_lt (by (with_reducible repeat (first | apply Kd.R_alloc | apply Kd.R_drewN | apply Kd.R_drew)); exact HO265.out))) (below_size (by repeat (first | (with_reducible first | exact HB.out | apply below_alloc | apply pw_below_drewN | apply below_drew1) | exact HB.out)))); have n2_ := Aside0.mk (below_step (by repeat (first | (with_reducible first | exact HB.out | apply below_alloc | apply pw_below_drewN | apply below_drew1) | exact HB.out)) hb); clear HO265; clear HB; have HO265 := n0_; have HO269 := n1_; have HB := n2_; clear n0_ n1_ n2_; (try clear hb); (try clear hb2); (try clear hk); (try clear hi); (try clear ho0)) | (go_at_call 16; (with_reducible refine (ring_Factors.calls kj2 (wrap64 (a0 * a1)) t270 t271 _ A12.out).mono ?_); rintro e w16 ⟨v272, rfl, ho0, hb⟩; have n0_ := Aside0.mk (Kd.R_elder' (by (with_reducible repeat (first | apply Kd.R_alloc | apply Kd.R_drewN | apply Kd.R_drew)); exact HO265.out) (Kd.R_base ho0) hb); have n1_ := Aside0.mk (Kd.R_elder' (by (with_reducible repeat (first | apply Kd.R_alloc | apply Kd.R_drewN | apply Kd.R_drew)); exact HO269.out) (Kd.R_base ho0) hb); have n2_ := Aside0.mk (Kd.R_lower (Kd.R_new' (Kd.R_new' ho0 (Kd.R_lt (by (with_reducible repeat (first | apply Kd.R_alloc | apply Kd.R_drewN | apply Kd.R_drew)); exact HO265.out))) (Kd.R_lt (by (with_reducible repeat (first | apply Kd.R_alloc | apply Kd.R_drewN | apply Kd.R_drew)); exact HO269.out))) (below_size (by repeat (first | (with_reducible first | exact HB.out | apply below_alloc | apply pw_below_drewN | apply below_drew1) | exact HB.out)))); have n3_ := Aside0.mk (below_step (by repeat (first | (with_reducible first | exact HB.out | apply below_alloc | apply pw_below_drewN | apply below_drew1) | exact HB.out)) hb); clear HO265; clear HO269; clear HB; have HO265 := n0_; have HO269 := n1_; have HO273 := n2_; have HB := n3_; clear n0_ n1_ n2_ n3_; (try clear hb); (try clear hb2); (try clear hk); (try clear hi); (try clear ho0))); go_upto_region 6 with (first | (go_at_call 16; (with_reducible refine (ring_Factors.calls kj2 a0 t262 t263 _ A10.out).mono ?_); rintro e w14 ⟨v264, rfl, ho0, hb⟩; have n0_ := Aside0.mk (Kd.R_lower ho0 (below_size (by repeat (first | (with_reducible first | exact HB.out | apply below_alloc | apply pw_below_drewN | apply below_drew1) | exact HB.out)))); have n1_ := Aside0.mk (below_step (by repeat (first | (with_reducible first | exact HB.out | apply below_alloc | apply pw_below_drewN | apply below_drew1) | exact HB.out)) hb); clear HB; have HO265 := n0_; have HB := n1_; clear n0_ n1_; (try clear hb); (try clear hb2); (try clear hk); (try clear hi); (try clear ho0)) | (go_at_call 16; (with_reducible refine (ring_Factors.calls kj2 a1 t266 t267 _ A11.out).mono ?_); rintro e w15 ⟨v268, rfl, ho0, hb⟩; have n0_ := Aside0.mk (Kd.R_elder' (by (with_reducible repeat (first | apply Kd.R_alloc | apply Kd.R_drewN | apply Kd.R_drew)); exact HO265.out) (Kd.R_base ho0) hb); have n1_ := Aside0.mk (Kd.R_lower (Kd.R_new' ho0 (Kd.R_lt (by (with_reducible repeat (first | apply Kd.R_alloc | apply Kd.R_drewN | apply Kd.R_drew)); exact HO265.out))) (below_size (by repeat (first | (with_reducible first | exact HB.out | apply below_alloc | apply pw_below_drewN | apply below_drew1) | exact HB.out)))); have n2_ := Aside0.mk (below_step (by repeat (first | (with_reducible first | exact HB.out | apply below_alloc | apply pw_below_drewN | apply below_drew1) | exact HB.out)) hb); clear HO265; clear HB; have HO265 := n0_; have HO269 := n1_; have HB := n2_; clear n0_ n1_ n2_; (try clear hb); (try clear hb2); (try clear hk); (try clear hi); (try clear ho0)) | (go_at_call 16; (with_reducible refine (ring_Factors.calls kj2 (wrap64 (a0 * a1)) t270 t271 _ A12.out).mono ?_); rintro e w16 ⟨v272, rfl, ho0, hb⟩; have n0_ := Aside0.mk (Kd.R_elder' (by (with_reducible repeat (first | apply Kd.R_alloc | apply Kd.R_drewN | apply Kd.R_drew)); exact HO265.out) (Kd.R_base ho0) hb); have n1_ := Aside0.mk (Kd.R_elder' (by (with_reducible repeat (first | apply Kd.R_alloc | apply Kd.R_drewN | apply Kd.R_drew)); exact HO269.out) (Kd.R_base ho0) hb); have n2_ := Aside0.mk (Kd.R_lower (Kd.R_new' (Kd.R_new' ho0 (Kd.R_lt (by (with_reducible repeat (first | apply Kd.R_alloc | apply Kd.R_drewN | apply Kd.R_drew)); exact HO265.out))) (Kd.R_lt (by (with_reducible repeat (first | apply Kd.R_alloc | apply Kd.R_drewN | apply Kd.R_drew)); exact HO269.out))) (below_size (by repeat (first | (with_reducible first | exact HB.out | apply below_alloc | apply pw_below_drewN | apply below_drew1) | exact HB.out)))); have n3_ := Aside0.mk (below_step (by repeat (first | (with_reducible first | exact HB.out | apply below_alloc | apply pw_below_drewN | apply below_drew1) | exact HB.out)) hb); clear HO265; clear HO269; clear HB; have HO265 := n0_; have HO269 := n1_; have HO273 := n2_; have HB := n3_; clear n0_ n1_ n2_ n3_; (try clear hb); (try clear hb2); (try clear hk); (try clear hi); (try clear ho0))))
        (try simp only [Act.put, List.setIfInBounds_toArray, List.set_cons_zero, List.set_cons_succ])
        go_cut [68] (fun v68 wc => ∃ (kq : Nat) (x68_12 : Bool), v68 = .bool x68_12 ∧ Aside0 (fringelaw10_RingFactors.j1 kq a0 a1 t262 t266 t270 x68_12 = some r) ∧ Aside0 (kq ≤ kj2) ∧ Aside0 (Kd.R (Kd.int .i64) 2 wc w.heap.size (fun k_ => some k_ ≠ (v268 : Value).ownBlock ∧ some k_ ≠ (v272 : Value).ownBlock) v264 t262) ∧ Aside0 (Kd.R (Kd.int .i64) 2 wc w.heap.size (fun k_ => some k_ ≠ (v264 : Value).ownBlock ∧ some k_ ≠ (v272 : Value).ownBlock) v268 t266) ∧ Aside0 (Kd.R (Kd.int .i64) 2 wc w.heap.size (fun k_ => some k_ ≠ (v264 : Value).ownBlock ∧ some k_ ≠ (v268 : Value).ownBlock) v272 t270) ∧ Aside0 (Below w.heap.size w wc))
        case first =>
          have H := HC13.out
          clear HC13
          by_cases c17 : t263 = 0
          · rw [if_pos c17] at H
            have c17b0 : (t263 == 0) = true := beq_iff_eq.mpr c17
            have c17b1 : (t263 != 0) = false := bne_eq_false_iff_eq.mpr c17
            clear c17
            (first | rw [c17b0] | (simp only [i64_w, i32_w]; rw [c17b0]) | skip)
            by_cases c18 : t267 = 0
            · rw [if_pos c18] at H
              have c18b0 : (t267 == 0) = true := beq_iff_eq.mpr c18
              have c18b1 : (t267 != 0) = false := bne_eq_false_iff_eq.mpr c18
              clear c18
              by_cases c19 : t271 = 0
              · rw [if_pos c19] at H
                have c19b0 : (t271 == 0) = true := beq_iff_eq.mpr c19
                have c19b1 : (t271 != 0) = false := bne_eq_false_iff_eq.mpr c19
                clear c19
                have H' := Aside0.mk H
                clear H
                obtain ⟨Ao20, co20, eo20⟩ := Kd.R_slice HO273.out
                subst eo20
                obtain ⟨Ao21, co21, eo21⟩ := Kd.R_slice HO265.out
                subst eo21
                obtain ⟨Ao22, co22, eo22⟩ := Kd.R_slice HO269.out
                subst eo22
                go_wp2
                repeat (go_quiet (fail); try go_wp2)
                go_meet
                case rel => exact ⟨_, (((t270.length : Int) != (wrap64 ((t262.length : Int) + (t266.length : Int))))), (by first | rfl | (simp; done) | (simp [*]; done)), H', ⟨by have := HJ2.out; first | omega | exact Nat.le_refl _⟩, ⟨by (with_reducible repeat (first | apply Kd.R_alloc | apply Kd.R_drewN | apply Kd.R_drew)); exact Kd.R_mono HO265.out (fun _ hk => ⟨hk.1.2, hk.2⟩)⟩, ⟨by (with_reducible repeat (first | apply Kd.R_alloc | apply Kd.R_drewN | apply Kd.R_drew)); exact Kd.R_mono HO269.out (fun _ hk => ⟨hk.1.2, hk.2⟩)⟩, ⟨by (with_reducible repeat (first | apply Kd.R_alloc | apply Kd.R_drewN | apply Kd.R_drew)); exact Kd.R_mono HO273.out (fun _ hk => ⟨hk.1.2, hk.2⟩)⟩, ⟨by repeat (first | (with_reducible first | exact HB.out | apply below_alloc | apply pw_below_drewN | apply below_drew1) | exact HB.out)⟩⟩
              · rw [if_neg c19] at H
                have c19b0 : (t271 == 0) = false := beq_eq_false_iff_ne.mpr c19
                have c19b1 : (t271 != 0) = true := bne_iff_ne.mpr c19
                have H' := Aside0.mk H
                clear H
                go_wp2
                repeat (go_quiet (fail); try go_wp2)
                go_meet
                case rel => exact ⟨_, (true), (by first | rfl | (simp; done) | (simp [*]; done)), H', ⟨by have := HJ2.out; first | omega | exact Nat.le_refl _⟩, ⟨by (with_reducible repeat (first | apply Kd.R_alloc | apply Kd.R_drewN | apply Kd.R_drew)); exact Kd.R_mono HO265.out (fun _ hk => ⟨hk.1.2, hk.2⟩)⟩, ⟨by (with_reducible repeat (first | apply Kd.R_alloc | apply Kd.R_drewN | apply Kd.R_drew)); exact Kd.R_mono HO269.out (fun _ hk => ⟨hk.1.2, hk.2⟩)⟩, ⟨by (with_reducible repeat (first | apply Kd.R_alloc | apply Kd.R_drewN | apply Kd.R_drew)); exact Kd.R_mono HO273.out (fun _ hk => ⟨hk.1.2, hk.2⟩)⟩, ⟨by repeat (first | (with_reducible first | exact HB.out | apply below_alloc | apply pw_below_drewN | apply below_drew1) | exact HB.out)⟩⟩
            · rw [if_neg c18] at H
              have c18b0 : (t267 == 0) = false := beq_eq_false_iff_ne.mpr c18
              have c18b1 : (t267 != 0) = true := bne_iff_ne.mpr c18
              have H' := Aside0.mk H
              clear H
              go_wp2
              repeat (go_quiet (fail); try go_wp2)
              go_meet
              case rel => exact ⟨_, (true), (by first | rfl | (simp; done) | (simp [*]; done)), H', ⟨by have := HJ2.out; first | omega | exact Nat.le_refl _⟩, ⟨by (with_reducible repeat (first | apply Kd.R_alloc | apply Kd.R_drewN | apply Kd.R_drew)); exact Kd.R_mono HO265.out (fun _ hk => ⟨hk.1.2, hk.2⟩)⟩, ⟨by (with_reducible repeat (first | apply Kd.R_alloc | apply Kd.R_drewN | apply Kd.R_drew)); exact Kd.R_mono HO269.out (fun _ hk => ⟨hk.1.2, hk.2⟩)⟩, ⟨by (with_reducible repeat (first | apply Kd.R_alloc | apply Kd.R_drewN | apply Kd.R_drew)); exact Kd.R_mono HO273.out (fun _ hk => ⟨hk.1.2, hk.2⟩)⟩, ⟨by repeat (first | (with_reducible first | exact HB.out | apply below_alloc | apply pw_below_drewN | apply below_drew1) | exact HB.out)⟩⟩
          · rw [if_neg c17] at H
            have c17b0 : (t263 == 0) = false := beq_eq_false_iff_ne.mpr c17
            have c17b1 : (t263 != 0) = true := bne_iff_ne.mpr c17
            (first | rw [c17b0] | (simp only [i64_w, i32_w]; rw [c17b0]) | skip)
            have H' := Aside0.mk H
            clear H
            go_wp2
            repeat (go_quiet (fail); try go_wp2)
            go_meet
            case rel => exact ⟨_, (true), (by first | rfl | (simp; done) | (simp [*]; done)), H', ⟨by have := HJ2.out; first | omega | exact Nat.le_refl _⟩, ⟨by (with_reducible repeat (first | apply Kd.R_alloc | apply Kd.R_drewN | apply Kd.R_drew)); exact Kd.R_mono HO265.out (fun _ hk => ⟨hk.1.2, hk.2⟩)⟩, ⟨by (with_reducible repeat (first | apply Kd.R_alloc | apply Kd.R_drewN | apply Kd.R_drew)); exact Kd.R_mono HO269.out (fun _ hk => ⟨hk.1.2, hk.2⟩)⟩, ⟨by (with_reducible repeat (first | apply Kd.R_alloc | apply Kd.R_drewN | apply Kd.R_drew)); exact Kd.R_mono HO273.out (fun _ hk => ⟨hk.1.2, hk.2⟩)⟩, ⟨by repeat (first | (with_reducible first | exact HB.out | apply below_alloc | apply pw_below_drewN | apply below_drew1) | exact HB.out)⟩⟩
        case rest =>
          clear HC13
          try clear c1
          try clear p2
          try clear c4
          try clear c4b0
          try clear c5
          try clear c5b0
          try clear c6
          try clear c6b0
          try clear p6
          try clear c7
          try clear c17
          try clear c17b0
          try clear c17b1
          try clear c18
          try clear c18b0
          try clear c18b1
          try clear c19
          try clear c19b0
          try clear c19b1
          try clear p2
          obtain ⟨kq, x68_12, rfl, HA, HJ12, HO_5, HO_7, HO_9, HB⟩ := hcut
          cases kq with
          | zero => exact absurd HA.out (by simp [fringelaw10_RingFactors.j1])
          | succ kj12 =>
            have H := HA.out
            clear HA
            simp only [fringelaw10_RingFactors.j1] at H
            by_cases c23 : x68_12 = true
            · subst c23
              have H1 : (some false) = some r := by rw [if_pos rfl] at H; exact H
              clear H
              have H := H1
              clear H1
              exact absurd ((Option.some.inj H).trans HRT.out) (by decide)
            · replace c23 := Bool.eq_false_iff.mpr c23
              subst c23
              have H1 : (fringelaw10_RingFactors.l0 kj12 a0 a1 t262 t266 t270 1 0) = some r := by rw [if_neg (show ¬ (false = true) by decide)] at H; exact H
              clear H
              have H := H1
              clear H1
              have H' := Aside0.mk H
              clear H
              go_wp2
              repeat (go_quiet (fail); try go_wp2)
              go_loopg [11, 12] kj12 (fun kq v11 v12 w' => ∃ (x11_3 : Int) (x12_3 : Int), v11 = .int .i64 x11_3 ∧ v12 = .int .i64 x12_3 ∧ Aside0 (fringelaw10_RingFactors.l0 kq a0 a1 t262 t266 t270 x11_3 x12_3 = some r) ∧ Aside0 (kq ≤ kj12) ∧ Aside0 (Kd.R (Kd.int .i64) 2 w' w.heap.size (fun k_ => some k_ ≠ (v268 : Value).ownBlock ∧ some k_ ≠ (v272 : Value).ownBlock) v264 t262) ∧ Aside0 (Kd.R (Kd.int .i64) 2 w' w.heap.size (fun k_ => some k_ ≠ (v264 : Value).ownBlock ∧ some k_ ≠ (v272 : Value).ownBlock) v268 t266) ∧ Aside0 (Kd.R (Kd.int .i64) 2 w' w.heap.size (fun k_ => some k_ ≠ (v264 : Value).ownBlock ∧ some k_ ≠ (v268 : Value).ownBlock) v272 t270) ∧ Aside0 (Below w.heap.size w w'))
              case atStart => exact ⟨(1), (0), (by first | rfl | (simp; done) | (simp [*]; done)), (by first | rfl | (simp; done) | (simp [*]; done)), H', ⟨Nat.le_refl _⟩, ⟨by (with_reducible repeat (first | apply Kd.R_alloc | apply Kd.R_drewN | apply Kd.R_drew)); exact HO_5.out⟩, ⟨by (with_reducible repeat (first | apply Kd.R_alloc | apply Kd.R_drewN | apply Kd.R_drew)); exact HO_7.out⟩, ⟨by (with_reducible repeat (first | apply Kd.R_alloc | apply Kd.R_drewN | apply Kd.R_drew)); exact HO_9.out⟩, ⟨by repeat (first | (with_reducible first | exact HB.out | apply below_alloc | apply pw_below_drewN | apply below_drew1) | exact HB.out)⟩⟩
              case round =>
                clear H'
                try clear c1
                try clear c2
                try clear p2
                try clear c4
                try clear c4b0
                try clear c5
                try clear c5b0
                try clear c6
                try clear c6b0
                try clear p6
                try clear c7
                try clear c17
                try clear c17b0
                try clear c17b1
                try clear c18
                try clear c18b0
                try clear c18b1
                try clear c19
                try clear c19b0
                try clear c19b1
                try clear c23
                try clear p2
                try clear p6
                obtain ⟨x11_3, x12_3, rfl, rfl, HA, HK3, HO_5, HO_7, HO_9, HB⟩ := hrel
                cases gk with
                | zero => exact absurd HA.out (by simp [fringelaw10_RingFactors.l0])
                | succ k3 =>
                  have H := HA.out
                  clear HA
                  simp only [fringelaw10_RingFactors.l0] at H
                  by_cases c24 : x12_3 < (t270.length : Int)
                  · rw [if_pos c24] at H
                    have c24b0 : decide (x12_3 < (t270.length : Int)) = true := decide_eq_true c24
                    clear c24
                    have HC25 := Aside0.mk H
                    clear H
                    obtain ⟨Ao26, co26, eo26⟩ := Kd.R_slice HO_9.out
                    subst eo26
                    go_upto_region 12 with (fail)
                    repeat (go_quiet (fail); go_upto_region 12 with (fail))
                    go_cut [96] (fun v96 wc => ∃ (kq : Nat) (x96_24 : Bool), v96 = .bool x96_24 ∧ Aside0 (fringelaw10_RingFactors.j3 kq a0 a1 t262 t266 t270 x11_3 x12_3 x96_24 = some r) ∧ Aside0 (kq ≤ k3) ∧ Aside0 (Kd.R (Kd.int .i64) 2 wc w.heap.size (fun k_ => some k_ ≠ (v268 : Value).ownBlock ∧ some k_ ≠ ((.slice Ao26 t270.length co26) : Value).ownBlock) v264 t262) ∧ Aside0 (Kd.R (Kd.int .i64) 2 wc w.heap.size (fun k_ => some k_ ≠ (v264 : Value).ownBlock ∧ some k_ ≠ ((.slice Ao26 t270.length co26) : Value).ownBlock) v268 t266) ∧ Aside0 (Kd.R (Kd.int .i64) 2 wc w.heap.size (fun k_ => some k_ ≠ (v264 : Value).ownBlock ∧ some k_ ≠ (v268 : Value).ownBlock) (.slice Ao26 t270.length co26) t270) ∧ Aside0 (Below w.heap.size w wc))
                    case first =>
                      have H := HC25.out
                      clear HC25
                      by_cases c27 : 0 ≤ x12_3
                      · rw [if_pos c27] at H
                        have c27b0 : decide (0 ≤ x12_3) = true := decide_eq_true c27
                        clear c27
                        (first | rw [c27b0] | (simp only [i64_w, i32_w]; rw [c27b0]) | skip)
                        replace H := Option.bind_eq_some_iff.mp H
                        obtain ⟨t276, A280, H⟩ := H
                        replace H : (if t276 = 0 then (if x12_3 > 0 then (if 0 ≤ (wrap64 (x12_3 - 1)) then (if (wrap64 (x12_3 - 1)) < (t270.length : Int) then (fringelaw10_RingFactors.j3 k3 a0 a1 t262 t266 t270 x11_3 x12_3 (decide ((rd t270 x12_3) < (rd t270 (wrap64 (x12_3 - 1)))))) else (none)) else (none)) else (fringelaw10_RingFactors.j3 k3 a0 a1 t262 t266 t270 x11_3 x12_3 false)) else (fringelaw10_RingFactors.j3 k3 a0 a1 t262 t266 t270 x11_3 x12_3 true)) = some r := H
                        have A28 := Aside0.mk A280
                        clear A280
                        by_cases c29 : t276 = 0
                        · rw [if_pos c29] at H
                          have c29b0 : (t276 == 0) = true := beq_iff_eq.mpr c29
                          have c29b1 : (t276 != 0) = false := bne_eq_false_iff_eq.mpr c29
                          clear c29
                          by_cases c30 : x12_3 > 0
                          · rw [if_pos c30] at H
                            have c30b0 : decide (0 < x12_3) = true := decide_eq_true c30
                            clear c30
                            obtain ⟨ji31, hji31⟩ : ∃ j_ : Int, (wrap64 (x12_3 - 1)) = j_ := ⟨_, rfl⟩
                            replace H : (if 0 ≤ (ji31) then (if (ji31) < (t270.length : Int) then (fringelaw10_RingFactors.j3 k3 a0 a1 t262 t266 t270 x11_3 x12_3 (decide ((rd t270 x12_3) < (rd t270 (ji31))))) else (none)) else (none)) = some r := by first | (rw [hji31] at H; exact H) | (simp only [hji31] at H ⊢; exact H)
                            (try rw [hji31] at A28)
                            have hji31w : (IntKind.i64.wrap (x12_3 - 1)) = ji31 := (i64_w _).trans hji31
                            by_cases c32 : 0 ≤ (ji31)
                            · rw [if_pos c32] at H
                              have c32b0 : decide (0 ≤ (ji31)) = true := decide_eq_true c32
                              clear c32
                              by_cases c33 : (ji31) < (t270.length : Int)
                              · rw [if_pos c33] at H
                                have c33b0 : decide ((ji31) < (t270.length : Int)) = true := decide_eq_true c33
                                clear c33
                                have H' := Aside0.mk H
                                clear H
                                have p275 : 0 ≤ (x12_3 : Int) := of_decide_eq_true (by first | (with_reducible assumption) | assumption)
                                have q275 : x12_3 < (t270.length : Int) := of_decide_eq_true (by first | (with_reducible assumption) | assumption)
                                obtain ⟨ad275, e275, hx275_0⟩ := Kd.at_int (Kd.R_reads' HO_9.out).2.2 x12_3 p275 q275
                                cases e275
                                replace p275 := eq_true p275
                                replace q275 := eq_true q275
                                go_wp2_with (first | (go_at_call 14; (with_reducible refine (ring_Check.calls k3 (rd t270 x12_3) t276 _ A28.out).mono ?_); rintro e w' ⟨rfl, ⟨nd, rfl⟩⟩; (try first | exact ⟨rfl, _, World.drewN_drewN _ _ _⟩ | exact ⟨rfl, _, Eq.trans (World.drewN_drewN _ _ _) (congrArg (World.drewN _) (Nat.add_assoc _ _ _))⟩); have p277 : 0 ≤ (x12_3 : Int) := of_decide_eq_true (by first | (with_reducible assumption) | assumption); have q277 : x12_3 < (t270.length : Int) := of_decide_eq_true (by first | (with_reducible assumption) | assumption); obtain ⟨ad277, e277, hx277_0⟩ := Kd.at_int (Kd.R_reads' HO_9.out).2.2 x12_3 p277 q277; obtain rfl : ad275 = ad277 := (by injection e277); replace p277 := eq_true p277; replace q277 := eq_true q277; have p278 : 0 ≤ ((ji31) : Int) := of_decide_eq_true (by first | (with_reducible assumption) | assumption); have q278 : (ji31) < (t270.length : Int) := of_decide_eq_true (by first | (with_reducible assumption) | assumption); obtain ⟨ad278, e278, hx278_0⟩ := Kd.at_int (Kd.R_reads' HO_9.out).2.2 (ji31) p278 q278; obtain rfl : ad275 = ad278 := (by injection e278); replace p278 := eq_true p278; replace q278 := eq_true q278))
                                repeat (go_quiet (first | (go_at_call 14; (with_reducible refine (ring_Check.calls k3 (rd t270 x12_3) t276 _ A28.out).mono ?_); rintro e w' ⟨rfl, ⟨nd, rfl⟩⟩; (try first | exact ⟨rfl, _, World.drewN_drewN _ _ _⟩ | exact ⟨rfl, _, Eq.trans (World.drewN_drewN _ _ _) (congrArg (World.drewN _) (Nat.add_assoc _ _ _))⟩); have p277 : 0 ≤ (x12_3 : Int) := of_decide_eq_true (by first | (with_reducible assumption) | assumption); have q277 : x12_3 < (t270.length : Int) := of_decide_eq_true (by first | (with_reducible assumption) | assumption); obtain ⟨ad277, e277, hx277_0⟩ := Kd.at_int (Kd.R_reads' HO_9.out).2.2 x12_3 p277 q277; obtain rfl : ad275 = ad277 := (by injection e277); replace p277 := eq_true p277; replace q277 := eq_true q277; have p278 : 0 ≤ ((ji31) : Int) := of_decide_eq_true (by first | (with_reducible assumption) | assumption); have q278 : (ji31) < (t270.length : Int) := of_decide_eq_true (by first | (with_reducible assumption) | assumption); obtain ⟨ad278, e278, hx278_0⟩ := Kd.at_int (Kd.R_reads' HO_9.out).2.2 (ji31) p278 q278; obtain rfl : ad275 = ad278 := (by injection e278); replace p278 := eq_true p278; replace q278 := eq_true q278)); try go_wp2_with (first | (go_at_call 14; (with_reducible refine (ring_Check.calls k3 (rd t270 x12_3) t276 _ A28.out).mono ?_); rintro e w' ⟨rfl, ⟨nd, rfl⟩⟩; (try first | exact ⟨rfl, _, World.drewN_drewN _ _ _⟩ | exact ⟨rfl, _, Eq.trans (World.drewN_drewN _ _ _) (congrArg (World.drewN _) (Nat.add_assoc _ _ _))⟩); have p277 : 0 ≤ (x12_3 : Int) := of_decide_eq_true (by first | (with_reducible assumption) | assumption); have q277 : x12_3 < (t270.length : Int) := of_decide_eq_true (by first | (with_reducible assumption) | assumption); obtain ⟨ad277, e277, hx277_0⟩ := Kd.at_int (Kd.R_reads' HO_9.out).2.2 x12_3 p277 q277; obtain rfl : ad275 = ad277 := (by injection e277); replace p277 := eq_true p277; replace q277 := eq_true q277; have p278 : 0 ≤ ((ji31) : Int) := of_decide_eq_true (by first | (with_reducible assumption) | assumption); have q278 : (ji31) < (t270.length : Int) := of_decide_eq_true (by first | (with_reducible assumption) | assumption); obtain ⟨ad278, e278, hx278_0⟩ := Kd.at_int (Kd.R_reads' HO_9.out).2.2 (ji31) p278 q278; obtain rfl : ad275 = ad278 := (by injection e278); replace p278 := eq_true p278; replace q278 := eq_true q278)))
                                go_meet
                                case rel => exact ⟨_, (decide ((rd t270 x12_3) < (rd t270 (ji31)))), (by first | rfl | (simp; done) | (simp only [← hji31] <;> (first | rfl | simp)) | (simp [*]; done)), H', ⟨by have := HJ2.out; have := HJ12.out; have := HK3.out; first | omega | exact Nat.le_refl _⟩, ⟨by (with_reducible repeat (first | apply Kd.R_alloc | apply Kd.R_drewN | apply Kd.R_drew)); exact HO_5.out⟩, ⟨by (with_reducible repeat (first | apply Kd.R_alloc | apply Kd.R_drewN | apply Kd.R_drew)); exact HO_7.out⟩, ⟨by (with_reducible repeat (first | apply Kd.R_alloc | apply Kd.R_drewN | apply Kd.R_drew)); exact HO_9.out⟩, ⟨by repeat (first | (with_reducible first | exact HB.out | apply below_alloc | apply pw_below_drewN | apply below_drew1) | exact HB.out)⟩⟩
                              · rw [if_neg c33] at H
                                exact absurd H (by simp)
                            · rw [if_neg c32] at H
                              exact absurd H (by simp)
                          · rw [if_neg c30] at H
                            have c30b0 : decide (0 < x12_3) = false := decide_eq_false c30
                            clear c30
                            have H' := Aside0.mk H
                            clear H
                            have p275 : 0 ≤ (x12_3 : Int) := of_decide_eq_true (by first | (with_reducible assumption) | assumption)
                            have q275 : x12_3 < (t270.length : Int) := of_decide_eq_true (by first | (with_reducible assumption) | assumption)
                            obtain ⟨ad275, e275, hx275_0⟩ := Kd.at_int (Kd.R_reads' HO_9.out).2.2 x12_3 p275 q275
                            cases e275
                            replace p275 := eq_true p275
                            replace q275 := eq_true q275
                            go_wp2_with (first | (go_at_call 14; (with_reducible refine (ring_Check.calls k3 (rd t270 x12_3) t276 _ A28.out).mono ?_); rintro e w' ⟨rfl, ⟨nd, rfl⟩⟩; (try first | exact ⟨rfl, _, World.drewN_drewN _ _ _⟩ | exact ⟨rfl, _, Eq.trans (World.drewN_drewN _ _ _) (congrArg (World.drewN _) (Nat.add_assoc _ _ _))⟩)))
                            repeat (go_quiet (first | (go_at_call 14; (with_reducible refine (ring_Check.calls k3 (rd t270 x12_3) t276 _ A28.out).mono ?_); rintro e w' ⟨rfl, ⟨nd, rfl⟩⟩; (try first | exact ⟨rfl, _, World.drewN_drewN _ _ _⟩ | exact ⟨rfl, _, Eq.trans (World.drewN_drewN _ _ _) (congrArg (World.drewN _) (Nat.add_assoc _ _ _))⟩))); try go_wp2_with (first | (go_at_call 14; (with_reducible refine (ring_Check.calls k3 (rd t270 x12_3) t276 _ A28.out).mono ?_); rintro e w' ⟨rfl, ⟨nd, rfl⟩⟩; (try first | exact ⟨rfl, _, World.drewN_drewN _ _ _⟩ | exact ⟨rfl, _, Eq.trans (World.drewN_drewN _ _ _) (congrArg (World.drewN _) (Nat.add_assoc _ _ _))⟩))))
                            go_meet
                            case rel => exact ⟨_, (false), (by first | rfl | (simp; done) | (simp [*]; done)), H', ⟨by have := HJ2.out; have := HJ12.out; have := HK3.out; first | omega | exact Nat.le_refl _⟩, ⟨by (with_reducible repeat (first | apply Kd.R_alloc | apply Kd.R_drewN | apply Kd.R_drew)); exact HO_5.out⟩, ⟨by (with_reducible repeat (first | apply Kd.R_alloc | apply Kd.R_drewN | apply Kd.R_drew)); exact HO_7.out⟩, ⟨by (with_reducible repeat (first | apply Kd.R_alloc | apply Kd.R_drewN | apply Kd.R_drew)); exact HO_9.out⟩, ⟨by repeat (first | (with_reducible first | exact HB.out | apply below_alloc | apply pw_below_drewN | apply below_drew1) | exact HB.out)⟩⟩
                        · rw [if_neg c29] at H
                          have c29b0 : (t276 == 0) = false := beq_eq_false_iff_ne.mpr c29
                          have c29b1 : (t276 != 0) = true := bne_iff_ne.mpr c29
                          have H' := Aside0.mk H
                          clear H
                          have p275 : 0 ≤ (x12_3 : Int) := of_decide_eq_true (by first | (with_reducible assumption) | assumption)
                          have q275 : x12_3 < (t270.length : Int) := of_decide_eq_true (by first | (with_reducible assumption) | assumption)
                          obtain ⟨ad275, e275, hx275_0⟩ := Kd.at_int (Kd.R_reads' HO_9.out).2.2 x12_3 p275 q275
                          cases e275
                          replace p275 := eq_true p275
                          replace q275 := eq_true q275
                          go_wp2_with (first | (go_at_call 14; (with_reducible refine (ring_Check.calls k3 (rd t270 x12_3) t276 _ A28.out).mono ?_); rintro e w' ⟨rfl, ⟨nd, rfl⟩⟩; (try first | exact ⟨rfl, _, World.drewN_drewN _ _ _⟩ | exact ⟨rfl, _, Eq.trans (World.drewN_drewN _ _ _) (congrArg (World.drewN _) (Nat.add_assoc _ _ _))⟩)))
                          repeat (go_quiet (first | (go_at_call 14; (with_reducible refine (ring_Check.calls k3 (rd t270 x12_3) t276 _ A28.out).mono ?_); rintro e w' ⟨rfl, ⟨nd, rfl⟩⟩; (try first | exact ⟨rfl, _, World.drewN_drewN _ _ _⟩ | exact ⟨rfl, _, Eq.trans (World.drewN_drewN _ _ _) (congrArg (World.drewN _) (Nat.add_assoc _ _ _))⟩))); try go_wp2_with (first | (go_at_call 14; (with_reducible refine (ring_Check.calls k3 (rd t270 x12_3) t276 _ A28.out).mono ?_); rintro e w' ⟨rfl, ⟨nd, rfl⟩⟩; (try first | exact ⟨rfl, _, World.drewN_drewN _ _ _⟩ | exact ⟨rfl, _, Eq.trans (World.drewN_drewN _ _ _) (congrArg (World.drewN _) (Nat.add_assoc _ _ _))⟩))))
                          go_meet
                          case rel => exact ⟨_, (true), (by first | rfl | (simp; done) | (simp [*]; done)), H', ⟨by have := HJ2.out; have := HJ12.out; have := HK3.out; first | omega | exact Nat.le_refl _⟩, ⟨by (with_reducible repeat (first | apply Kd.R_alloc | apply Kd.R_drewN | apply Kd.R_drew)); exact HO_5.out⟩, ⟨by (with_reducible repeat (first | apply Kd.R_alloc | apply Kd.R_drewN | apply Kd.R_drew)); exact HO_7.out⟩, ⟨by (with_reducible repeat (first | apply Kd.R_alloc | apply Kd.R_drewN | apply Kd.R_drew)); exact HO_9.out⟩, ⟨by repeat (first | (with_reducible first | exact HB.out | apply below_alloc | apply pw_below_drewN | apply below_drew1) | exact HB.out)⟩⟩
                      · rw [if_neg c27] at H
                        exact absurd H (by simp)
                    case rest =>
                      clear HC25
                      try clear c1
                      try clear c2
                      try clear p2
                      try clear q2
                      try clear hx2
                      try clear c3
                      try clear c4
                      try clear c4b0
                      try clear c5
                      try clear c5b0
                      try clear c6
                      try clear c6b0
                      try clear p6
                      try clear c7
                      try clear c17
                      try clear c17b0
                      try clear c17b1
                      try clear c18
                      try clear c18b0
                      try clear c18b1
                      try clear c19
                      try clear c19b0
                      try clear c19b1
                      try clear c23
                      try clear c24
                      try clear c24b0
                      try clear c27
                      try clear c27b0
                      try clear p27
                      try clear q27
                      try clear hx27
                      try clear c29
                      try clear c29b0
                      try clear c29b1
                      try clear c30
                      try clear c30b0
                      try clear c32
                      try clear c32b0
                      try clear c33
                      try clear c33b0
                      try clear hx275_0
                      try clear hx277_0
                      try clear hx278_0
                      try clear p2
                      try clear p275
                      try clear p277
                      try clear p278
                      try clear p6
                      try clear q275
                      try clear q277
                      try clear q278
                      obtain ⟨kq, x96_24, rfl, HA, HJ24, HO_5, HO_7, HO_9, HB⟩ := hcut
                      cases kq with
                      | zero => exact absurd HA.out (by simp [fringelaw10_RingFactors.j3])
                      | succ kj24 =>
                        have H := HA.out
                        clear HA
                        simp only [fringelaw10_RingFactors.j3] at H
                        by_cases c34 : x96_24 = true
                        · subst c34
                          have H1 : (some false) = some r := by rw [if_pos rfl] at H; exact H
                          clear H
                          have H := H1
                          clear H1
                          exact absurd ((Option.some.inj H).trans HRT.out) (by decide)
                        · replace c34 := Bool.eq_false_iff.mpr c34
                          subst c34
                          have H1 : (if 0 ≤ x12_3 then (if x12_3 < (t270.length : Int) then (fringelaw10_RingFactors.l1 kj24 a0 a1 t262 t266 t270 (wrap64 (x11_3 * (rd t270 x12_3))) x12_3 0 0) else (none)) else (none)) = some r := by rw [if_neg (show ¬ (false = true) by decide)] at H; exact H
                          clear H
                          have H := H1
                          clear H1
                          by_cases c35 : 0 ≤ x12_3
                          · rw [if_pos c35] at H
                            have c35b0 : decide (0 ≤ x12_3) = true := decide_eq_true c35
                            clear c35
                            by_cases c36 : x12_3 < (t270.length : Int)
                            · rw [if_pos c36] at H
                              have c36b0 : decide (x12_3 < (t270.length : Int)) = true := decide_eq_true c36
                              clear c36
                              have H' := Aside0.mk H
                              clear H
                              have p279 : 0 ≤ (x12_3 : Int) := of_decide_eq_true (by first | (with_reducible assumption) | assumption)
                              have q279 : x12_3 < (t270.length : Int) := of_decide_eq_true (by first | (with_reducible assumption) | assumption)
                              obtain ⟨ad279, e279, hx279_0⟩ := Kd.at_int (Kd.R_reads' HO_9.out).2.2 x12_3 p279 q279
                              cases e279
                              replace p279 := eq_true p279
                              replace q279 := eq_true q279
                              go_wp2
                              repeat (go_quiet (fail); try go_wp2)
                              go_loopg [13, 14] kj24 (fun kq v13 v14 w' => ∃ (x13_5 : Int) (x14_5 : Int), v13 = .int .i64 x13_5 ∧ v14 = .int .i64 x14_5 ∧ Aside0 (fringelaw10_RingFactors.l1 kq a0 a1 t262 t266 t270 (wrap64 (x11_3 * (rd t270 x12_3))) x12_3 x13_5 x14_5 = some r) ∧ Aside0 (kq ≤ kj24) ∧ Aside0 (Kd.R (Kd.int .i64) 2 w' w.heap.size (fun k_ => some k_ ≠ (v268 : Value).ownBlock ∧ some k_ ≠ ((.slice (some ad279) t270.length co26) : Value).ownBlock) v264 t262) ∧ Aside0 (Kd.R (Kd.int .i64) 2 w' w.heap.size (fun k_ => some k_ ≠ (v264 : Value).ownBlock ∧ some k_ ≠ ((.slice (some ad279) t270.length co26) : Value).ownBlock) v268 t266) ∧ Aside0 (Kd.R (Kd.int .i64) 2 w' w.heap.size (fun k_ => some k_ ≠ (v264 : Value).ownBlock ∧ some k_ ≠ (v268 : Value).ownBlock) (.slice (some ad279) t270.length co26) t270) ∧ Aside0 (Below w.heap.size w w'))
                              case atStart => exact ⟨(0), (0), (by first | rfl | (simp; done) | (simp [*]; done)), (by first | rfl | (simp; done) | (simp [*]; done)), H', ⟨Nat.le_refl _⟩, ⟨by (with_reducible repeat (first | apply Kd.R_alloc | apply Kd.R_drewN | apply Kd.R_drew)); exact HO_5.out⟩, ⟨by (with_reducible repeat (first | apply Kd.R_alloc | apply Kd.R_drewN | apply Kd.R_drew)); exact HO_7.out⟩, ⟨by (with_reducible repeat (first | apply Kd.R_alloc | apply Kd.R_drewN | apply Kd.R_drew)); exact HO_9.out⟩, ⟨by repeat (first | (with_reducible first | exact HB.out | apply below_alloc | apply pw_below_drewN | apply below_drew1) | exact HB.out)⟩⟩
                              case round =>
                                clear H'
                                try clear c1
                                try clear c2
                                try clear p2
                                try clear q2
                                try clear hx2
                                try clear c3
                                try clear c4
                                try clear c4b0
                                try clear c5
                                try clear c5b0
                                try clear c6
                                try clear c6b0
                                try clear p6
                                try clear c7
                                try clear c17
                                try clear c17b0
                                try clear c17b1
                                try clear c18
                                try clear c18b0
                                try clear c18b1
                                try clear c19
                                try clear c19b0
                                try clear c19b1
                                try clear c23
                                try clear c24
                                try clear c24b0
                                try clear c27
                                try clear c27b0
                                try clear p27
                                try clear q27
                                try clear hx27
                                try clear c29
                                try clear c29b0
                                try clear c29b1
                                try clear c30
                                try clear c30b0
                                try clear c32
                                try clear c32b0
                                try clear c33
                                try clear c33b0
                                try clear c34
                                try clear c35
                                try clear c35b0
                                try clear c36
                                try clear c36b0
                                try clear hx275_0
                                try clear hx277_0
                                try clear hx278_0
                                try clear hx279_0
                                try clear p2
                                try clear p27
                                try clear p275
                                try clear p277
                                try clear p278
                                try clear p279
                                try clear p6
                                try clear q2
                                try clear q27
                                try clear q275
                                try clear q277
                                try clear q278
                                try clear q279
                                obtain ⟨x13_5, x14_5, rfl, rfl, HA, HK5, HO_5, HO_7, HO_9, HB⟩ := hrel
                                cases gk with
                                | zero => exact absurd HA.out (by simp [fringelaw10_RingFactors.l1])
                                | succ k5 =>
                                  have H := HA.out
                                  clear HA
                                  simp only [fringelaw10_RingFactors.l1] at H
                                  by_cases c37 : x14_5 < (t262.length : Int)
                                  · rw [if_pos c37] at H
                                    have c37b0 : decide (x14_5 < (t262.length : Int)) = true := decide_eq_true c37
                                    clear c37
                                    by_cases c38 : 0 ≤ x14_5
                                    · rw [if_pos c38] at H
                                      have c38b0 : decide (0 ≤ x14_5) = true := decide_eq_true c38
                                      clear c38
                                      by_cases c39 : 0 ≤ x12_3
                                      · rw [if_pos c39] at H
                                        have c39b0 : decide (0 ≤ x12_3) = true := decide_eq_true c39
                                        clear c39
                                        by_cases c40 : x12_3 < (t270.length : Int)
                                        · rw [if_pos c40] at H
                                          have c40b0 : decide (x12_3 < (t270.length : Int)) = true := decide_eq_true c40
                                          clear c40
                                          by_cases c41 : (rd t262 x14_5) = (rd t270 x12_3)
                                          · rw [if_pos c41] at H
                                            have c41b0 : ((rd t262 x14_5) == (rd t270 x12_3)) = true := beq_iff_eq.mpr c41
                                            have c41b1 : ((rd t262 x14_5) != (rd t270 x12_3)) = false := bne_eq_false_iff_eq.mpr c41
                                            clear c41
                                            have H' := Aside0.mk H
                                            clear H
                                            obtain ⟨Ao42, co42, eo42⟩ := Kd.R_slice HO_5.out
                                            subst eo42
                                            have p280 : 0 ≤ (x14_5 : Int) := of_decide_eq_true (by first | (with_reducible assumption) | assumption)
                                            have q280 : x14_5 < (t262.length : Int) := of_decide_eq_true (by first | (with_reducible assumption) | assumption)
                                            obtain ⟨ad280, e280, hx280_0⟩ := Kd.at_int (Kd.R_reads' HO_5.out).2.2 x14_5 p280 q280
                                            cases e280
                                            replace p280 := eq_true p280
                                            replace q280 := eq_true q280
                                            have p281 : 0 ≤ (x12_3 : Int) := of_decide_eq_true (by first | (with_reducible assumption) | assumption)
                                            have q281 : x12_3 < (t270.length : Int) := of_decide_eq_true (by first | (with_reducible assumption) | assumption)
                                            obtain ⟨ad281, e281, hx281_0⟩ := Kd.at_int (Kd.R_reads' HO_9.out).2.2 x12_3 p281 q281
                                            obtain rfl : ad279 = ad281 := (by injection e281)
                                            replace p281 := eq_true p281
                                            replace q281 := eq_true q281
                                            go_wp2
                                            repeat (go_quiet (fail); try go_wp2)
                                            go_roundg k5
                                            case measure => have := HJ2.out; have := HJ12.out; have := HK3.out; have := HJ24.out; have := HK5.out; omega
                                            case rel => exact ⟨(wrap64 (x13_5 + 1)), (wrap64 (x14_5 + 1)), (by first | rfl | (simp; done) | (simp [*]; done)), (by first | rfl | (simp; done) | (simp [*]; done)), H', ⟨by have := HJ2.out; have := HJ12.out; have := HK3.out; have := HJ24.out; have := HK5.out; omega⟩, ⟨by (with_reducible repeat (first | apply Kd.R_alloc | apply Kd.R_drewN | apply Kd.R_drew)); exact HO_5.out⟩, ⟨by (with_reducible repeat (first | apply Kd.R_alloc | apply Kd.R_drewN | apply Kd.R_drew)); exact HO_7.out⟩, ⟨by (with_reducible repeat (first | apply Kd.R_alloc | apply Kd.R_drewN | apply Kd.R_drew)); exact HO_9.out⟩, ⟨by repeat (first | (with_reducible first | exact HB.out | apply below_alloc | apply pw_below_drewN | apply below_drew1) | exact HB.out)⟩⟩
                                          · rw [if_neg c41] at H
                                            have c41b0 : ((rd t262 x14_5) == (rd t270 x12_3)) = false := beq_eq_false_iff_ne.mpr c41
                                            have c41b1 : ((rd t262 x14_5) != (rd t270 x12_3)) = true := bne_iff_ne.mpr c41
                                            have H' := Aside0.mk H
                                            clear H
                                            obtain ⟨Ao43, co43, eo43⟩ := Kd.R_slice HO_5.out
                                            subst eo43
                                            have p280 : 0 ≤ (x14_5 : Int) := of_decide_eq_true (by first | (with_reducible assumption) | assumption)
                                            have q280 : x14_5 < (t262.length : Int) := of_decide_eq_true (by first | (with_reducible assumption) | assumption)
                                            obtain ⟨ad280, e280, hx280_0⟩ := Kd.at_int (Kd.R_reads' HO_5.out).2.2 x14_5 p280 q280
                                            cases e280
                                            replace p280 := eq_true p280
                                            replace q280 := eq_true q280
                                            have p281 : 0 ≤ (x12_3 : Int) := of_decide_eq_true (by first | (with_reducible assumption) | assumption)
                                            have q281 : x12_3 < (t270.length : Int) := of_decide_eq_true (by first | (with_reducible assumption) | assumption)
                                            obtain ⟨ad281, e281, hx281_0⟩ := Kd.at_int (Kd.R_reads' HO_9.out).2.2 x12_3 p281 q281
                                            obtain rfl : ad279 = ad281 := (by injection e281)
                                            replace p281 := eq_true p281
                                            replace q281 := eq_true q281
                                            go_wp2
                                            repeat (go_quiet (fail); try go_wp2)
                                            go_roundg k5
                                            case measure => have := HJ2.out; have := HJ12.out; have := HK3.out; have := HJ24.out; have := HK5.out; omega
                                            case rel => exact ⟨(x13_5), (wrap64 (x14_5 + 1)), (by first | rfl | (simp; done) | (simp [*]; done)), (by first | rfl | (simp; done) | (simp [*]; done)), H', ⟨by have := HJ2.out; have := HJ12.out; have := HK3.out; have := HJ24.out; have := HK5.out; omega⟩, ⟨by (with_reducible repeat (first | apply Kd.R_alloc | apply Kd.R_drewN | apply Kd.R_drew)); exact HO_5.out⟩, ⟨by (with_reducible repeat (first | apply Kd.R_alloc | apply Kd.R_drewN | apply Kd.R_drew)); exact HO_7.out⟩, ⟨by (with_reducible repeat (first | apply Kd.R_alloc | apply Kd.R_drewN | apply Kd.R_drew)); exact HO_9.out⟩, ⟨by repeat (first | (with_reducible first | exact HB.out | apply below_alloc | apply pw_below_drewN | apply below_drew1) | exact HB.out)⟩⟩
                                        · rw [if_neg c40] at H
                                          exact absurd H (by simp)
                                      · rw [if_neg c39] at H
                                        exact absurd H (by simp)
                                    · rw [if_neg c38] at H
                                      exact absurd H (by simp)
                                  · rw [if_neg c37] at H
                                    have c37b0 : decide (x14_5 < (t262.length : Int)) = false := decide_eq_false c37
                                    clear c37
                                    have H' := Aside0.mk H
                                    clear H
                                    obtain ⟨Ao44, co44, eo44⟩ := Kd.R_slice HO_5.out
                                    subst eo44
                                    go_wp2
                                    repeat (go_quiet (fail); try go_wp2)
                                    go_loopg [13, 15] k5 (fun kq v13 v15 w' => ∃ (x13_6 : Int) (x15_6 : Int), v13 = .int .i64 x13_6 ∧ v15 = .int .i64 x15_6 ∧ Aside0 (fringelaw10_RingFactors.l2 kq a0 a1 t262 t266 t270 (wrap64 (x11_3 * (rd t270 x12_3))) x12_3 x13_6 x15_6 = some r) ∧ Aside0 (kq ≤ k5) ∧ Aside0 (Kd.R (Kd.int .i64) 2 w' w.heap.size (fun k_ => some k_ ≠ (v268 : Value).ownBlock ∧ some k_ ≠ ((.slice (some ad279) t270.length co26) : Value).ownBlock) (.slice Ao44 t262.length co44) t262) ∧ Aside0 (Kd.R (Kd.int .i64) 2 w' w.heap.size (fun k_ => some k_ ≠ ((.slice Ao44 t262.length co44) : Value).ownBlock ∧ some k_ ≠ ((.slice (some ad279) t270.length co26) : Value).ownBlock) v268 t266) ∧ Aside0 (Kd.R (Kd.int .i64) 2 w' w.heap.size (fun k_ => some k_ ≠ ((.slice Ao44 t262.length co44) : Value).ownBlock ∧ some k_ ≠ (v268 : Value).ownBlock) (.slice (some ad279) t270.length co26) t270) ∧ Aside0 (Below w.heap.size w w'))
                                    case atStart => exact ⟨(x13_5), (0), (by first | rfl | (simp; done) | (simp [*]; done)), (by first | rfl | (simp; done) | (simp [*]; done)), H', ⟨Nat.le_refl _⟩, ⟨by (with_reducible repeat (first | apply Kd.R_alloc | apply Kd.R_drewN | apply Kd.R_drew)); exact HO_5.out⟩, ⟨by (with_reducible repeat (first | apply Kd.R_alloc | apply Kd.R_drewN | apply Kd.R_drew)); exact HO_7.out⟩, ⟨by (with_reducible repeat (first | apply Kd.R_alloc | apply Kd.R_drewN | apply Kd.R_drew)); exact HO_9.out⟩, ⟨by repeat (first | (with_reducible first | exact HB.out | apply below_alloc | apply pw_below_drewN | apply below_drew1) | exact HB.out)⟩⟩
                                    case round =>
                                      clear H'
                                      try clear c1
                                      try clear c2
                                      try clear p2
                                      try clear q2
                                      try clear hx2
                                      try clear c3
                                      try clear c4
                                      try clear c4b0
                                      try clear c5
                                      try clear c5b0
                                      try clear c6
                                      try clear c6b0
                                      try clear p6
                                      try clear c7
                                      try clear c17
                                      try clear c17b0
                                      try clear c17b1
                                      try clear c18
                                      try clear c18b0
                                      try clear c18b1
                                      try clear c19
                                      try clear c19b0
                                      try clear c19b1
                                      try clear c23
                                      try clear c24
                                      try clear c24b0
                                      try clear c27
                                      try clear c27b0
                                      try clear p27
                                      try clear q27
                                      try clear hx27
                                      try clear p28
                                      try clear q28
                                      try clear hx28
                                      try clear c29
                                      try clear c29b0
                                      try clear c29b1
                                      try clear c30
                                      try clear c30b0
                                      try clear c32
                                      try clear c32b0
                                      try clear c33
                                      try clear c33b0
                                      try clear c34
                                      try clear c35
                                      try clear c35b0
                                      try clear c36
                                      try clear c36b0
                                      try clear c37
                                      try clear c37b0
                                      try clear c38
                                      try clear c38b0
                                      try clear c39
                                      try clear c39b0
                                      try clear c40
                                      try clear c40b0
                                      try clear c41
                                      try clear c41b0
                                      try clear c41b1
                                      try clear hx275_0
                                      try clear hx277_0
                                      try clear hx278_0
                                      try clear hx279_0
                                      try clear hx280_0
                                      try clear hx281_0
                                      try clear p2
                                      try clear p27
                                      try clear p275
                                      try clear p277
                                      try clear p278
                                      try clear p279
                                      try clear p280
                                      try clear p281
                                      try clear p6
                                      try clear q2
                                      try clear q27
                                      try clear q275
                                      try clear q277
                                      try clear q278
                                      try clear q279
                                      try clear q280
                                      try clear q281
                                      obtain ⟨x13_6, x15_6, rfl, rfl, HA, HK6, HO_5, HO_7, HO_9, HB⟩ := hrel
                                      cases gk with
                                      | zero => exact absurd HA.out (by simp [fringelaw10_RingFactors.l2])
                                      | succ k6 =>
                                        have H := HA.out
                                        clear HA
                                        simp only [fringelaw10_RingFactors.l2] at H
                                        by_cases c45 : x15_6 < (t266.length : Int)
                                        · rw [if_pos c45] at H
                                          have c45b0 : decide (x15_6 < (t266.length : Int)) = true := decide_eq_true c45
                                          clear c45
                                          by_cases c46 : 0 ≤ x15_6
                                          · rw [if_pos c46] at H
                                            have c46b0 : decide (0 ≤ x15_6) = true := decide_eq_true c46
                                            clear c46
                                            by_cases c47 : 0 ≤ x12_3
                                            · rw [if_pos c47] at H
                                              have c47b0 : decide (0 ≤ x12_3) = true := decide_eq_true c47
                                              clear c47
                                              by_cases c48 : x12_3 < (t270.length : Int)
                                              · rw [if_pos c48] at H
                                                have c48b0 : decide (x12_3 < (t270.length : Int)) = true := decide_eq_true c48
                                                clear c48
                                                by_cases c49 : (rd t266 x15_6) = (rd t270 x12_3)
                                                · rw [if_pos c49] at H
                                                  have c49b0 : ((rd t266 x15_6) == (rd t270 x12_3)) = true := beq_iff_eq.mpr c49
                                                  have c49b1 : ((rd t266 x15_6) != (rd t270 x12_3)) = false := bne_eq_false_iff_eq.mpr c49
                                                  clear c49
                                                  have H' := Aside0.mk H
                                                  clear H
                                                  obtain ⟨Ao50, co50, eo50⟩ := Kd.R_slice HO_7.out
                                                  subst eo50
                                                  have p282 : 0 ≤ (x15_6 : Int) := of_decide_eq_true (by first | (with_reducible assumption) | assumption)
                                                  have q282 : x15_6 < (t266.length : Int) := of_decide_eq_true (by first | (with_reducible assumption) | assumption)
                                                  obtain ⟨ad282, e282, hx282_0⟩ := Kd.at_int (Kd.R_reads' HO_7.out).2.2 x15_6 p282 q282
                                                  cases e282
                                                  replace p282 := eq_true p282
                                                  replace q282 := eq_true q282
                                                  have p283 : 0 ≤ (x12_3 : Int) := of_decide_eq_true (by first | (with_reducible assumption) | assumption)
                                                  have q283 : x12_3 < (t270.length : Int) := of_decide_eq_true (by first | (with_reducible assumption) | assumption)
                                                  obtain ⟨ad283, e283, hx283_0⟩ := Kd.at_int (Kd.R_reads' HO_9.out).2.2 x12_3 p283 q283
                                                  obtain rfl : ad279 = ad283 := (by injection e283)
                                                  replace p283 := eq_true p283
                                                  replace q283 := eq_true q283
                                                  go_wp2
                                                  repeat (go_quiet (fail); try go_wp2)
                                                  go_roundg k6
                                                  case measure => have := HJ2.out; have := HJ12.out; have := HK3.out; have := HJ24.out; have := HK5.out; have := HK6.out; omega
                                                  case rel => exact ⟨(wrap64 (x13_6 + 1)), (wrap64 (x15_6 + 1)), (by first | rfl | (simp; done) | (simp [*]; done)), (by first | rfl | (simp; done) | (simp [*]; done)), H', ⟨by have := HJ2.out; have := HJ12.out; have := HK3.out; have := HJ24.out; have := HK5.out; have := HK6.out; omega⟩, ⟨by (with_reducible repeat (first | apply Kd.R_alloc | apply Kd.R_drewN | apply Kd.R_drew)); exact HO_5.out⟩, ⟨by (with_reducible repeat (first | apply Kd.R_alloc | apply Kd.R_drewN | apply Kd.R_drew)); exact HO_7.out⟩, ⟨by (with_reducible repeat (first | apply Kd.R_alloc | apply Kd.R_drewN | apply Kd.R_drew)); exact HO_9.out⟩, ⟨by repeat (first | (with_reducible first | exact HB.out | apply below_alloc | apply pw_below_drewN | apply below_drew1) | exact HB.out)⟩⟩
                                                · rw [if_neg c49] at H
                                                  have c49b0 : ((rd t266 x15_6) == (rd t270 x12_3)) = false := beq_eq_false_iff_ne.mpr c49
                                                  have c49b1 : ((rd t266 x15_6) != (rd t270 x12_3)) = true := bne_iff_ne.mpr c49
                                                  have H' := Aside0.mk H
                                                  clear H
                                                  obtain ⟨Ao51, co51, eo51⟩ := Kd.R_slice HO_7.out
                                                  subst eo51
                                                  have p282 : 0 ≤ (x15_6 : Int) := of_decide_eq_true (by first | (with_reducible assumption) | assumption)
                                                  have q282 : x15_6 < (t266.length : Int) := of_decide_eq_true (by first | (with_reducible assumption) | assumption)
                                                  obtain ⟨ad282, e282, hx282_0⟩ := Kd.at_int (Kd.R_reads' HO_7.out).2.2 x15_6 p282 q282
                                                  cases e282
                                                  replace p282 := eq_true p282
                                                  replace q282 := eq_true q282
                                                  have p283 : 0 ≤ (x12_3 : Int) := of_decide_eq_true (by first | (with_reducible assumption) | assumption)
                                                  have q283 : x12_3 < (t270.length : Int) := of_decide_eq_true (by first | (with_reducible assumption) | assumption)
                                                  obtain ⟨ad283, e283, hx283_0⟩ := Kd.at_int (Kd.R_reads' HO_9.out).2.2 x12_3 p283 q283
                                                  obtain rfl : ad279 = ad283 := (by injection e283)
                                                  replace p283 := eq_true p283
                                                  replace q283 := eq_true q283
                                                  go_wp2
                                                  repeat (go_quiet (fail); try go_wp2)
                                                  go_roundg k6
                                                  case measure => have := HJ2.out; have := HJ12.out; have := HK3.out; have := HJ24.out; have := HK5.out; have := HK6.out; omega
                                                  case rel => exact ⟨(x13_6), (wrap64 (x15_6 + 1)), (by first | rfl | (simp; done) | (simp [*]; done)), (by first | rfl | (simp; done) | (simp [*]; done)), H', ⟨by have := HJ2.out; have := HJ12.out; have := HK3.out; have := HJ24.out; have := HK5.out; have := HK6.out; omega⟩, ⟨by (with_reducible repeat (first | apply Kd.R_alloc | apply Kd.R_drewN | apply Kd.R_drew)); exact HO_5.out⟩, ⟨by (with_reducible repeat (first | apply Kd.R_alloc | apply Kd.R_drewN | apply Kd.R_drew)); exact HO_7.out⟩, ⟨by (with_reducible repeat (first | apply Kd.R_alloc | apply Kd.R_drewN | apply Kd.R_drew)); exact HO_9.out⟩, ⟨by repeat (first | (with_reducible first | exact HB.out | apply below_alloc | apply pw_below_drewN | apply below_drew1) | exact HB.out)⟩⟩
                                              · rw [if_neg c48] at H
                                                exact absurd H (by simp)
                                            · rw [if_neg c47] at H
                                              exact absurd H (by simp)
                                          · rw [if_neg c46] at H
                                            exact absurd H (by simp)
                                        · rw [if_neg c45] at H
                                          have c45b0 : decide (x15_6 < (t266.length : Int)) = false := decide_eq_false c45
                                          clear c45
                                          have H' := Aside0.mk H
                                          clear H
                                          obtain ⟨Ao52, co52, eo52⟩ := Kd.R_slice HO_7.out
                                          subst eo52
                                          go_wp2
                                          repeat (go_quiet (fail); try go_wp2)
                                          go_loopg [13, 16] k6 (fun kq v13 v16 w' => ∃ (x13_7 : Int) (x16_7 : Int), v13 = .int .i64 x13_7 ∧ v16 = .int .i64 x16_7 ∧ Aside0 (fringelaw10_RingFactors.l3 kq a0 a1 t262 t266 t270 (wrap64 (x11_3 * (rd t270 x12_3))) x12_3 x13_7 x16_7 = some r) ∧ Aside0 (kq ≤ k6) ∧ Aside0 (Kd.R (Kd.int .i64) 2 w' w.heap.size (fun k_ => some k_ ≠ ((.slice Ao52 t266.length co52) : Value).ownBlock ∧ some k_ ≠ ((.slice (some ad279) t270.length co26) : Value).ownBlock) (.slice Ao44 t262.length co44) t262) ∧ Aside0 (Kd.R (Kd.int .i64) 2 w' w.heap.size (fun k_ => some k_ ≠ ((.slice Ao44 t262.length co44) : Value).ownBlock ∧ some k_ ≠ ((.slice (some ad279) t270.length co26) : Value).ownBlock) (.slice Ao52 t266.length co52) t266) ∧ Aside0 (Kd.R (Kd.int .i64) 2 w' w.heap.size (fun k_ => some k_ ≠ ((.slice Ao44 t262.length co44) : Value).ownBlock ∧ some k_ ≠ ((.slice Ao52 t266.length co52) : Value).ownBlock) (.slice (some ad279) t270.length co26) t270) ∧ Aside0 (Below w.heap.size w w'))
                                          case atStart => exact ⟨(x13_6), (0), (by first | rfl | (simp; done) | (simp [*]; done)), (by first | rfl | (simp; done) | (simp [*]; done)), H', ⟨Nat.le_refl _⟩, ⟨by (with_reducible repeat (first | apply Kd.R_alloc | apply Kd.R_drewN | apply Kd.R_drew)); exact HO_5.out⟩, ⟨by (with_reducible repeat (first | apply Kd.R_alloc | apply Kd.R_drewN | apply Kd.R_drew)); exact HO_7.out⟩, ⟨by (with_reducible repeat (first | apply Kd.R_alloc | apply Kd.R_drewN | apply Kd.R_drew)); exact HO_9.out⟩, ⟨by repeat (first | (with_reducible first | exact HB.out | apply below_alloc | apply pw_below_drewN | apply below_drew1) | exact HB.out)⟩⟩
                                          case round =>
                                            clear H'
                                            try clear c1
                                            try clear c2
                                            try clear p2
                                            try clear q2
                                            try clear hx2
                                            try clear c3
                                            try clear c4
                                            try clear c4b0
                                            try clear c5
                                            try clear c5b0
                                            try clear c6
                                            try clear c6b0
                                            try clear p6
                                            try clear c7
                                            try clear c17
                                            try clear c17b0
                                            try clear c17b1
                                            try clear c18
                                            try clear c18b0
                                            try clear c18b1
                                            try clear c19
                                            try clear c19b0
                                            try clear c19b1
                                            try clear c23
                                            try clear c24
                                            try clear c24b0
                                            try clear c27
                                            try clear c27b0
                                            try clear p27
                                            try clear q27
                                            try clear hx27
                                            try clear p28
                                            try clear q28
                                            try clear hx28
                                            try clear c29
                                            try clear c29b0
                                            try clear c29b1
                                            try clear c30
                                            try clear c30b0
                                            try clear c32
                                            try clear c32b0
                                            try clear c33
                                            try clear c33b0
                                            try clear c34
                                            try clear c35
                                            try clear c35b0
                                            try clear c36
                                            try clear c36b0
                                            try clear c37
                                            try clear c37b0
                                            try clear c38
                                            try clear c38b0
                                            try clear c39
                                            try clear c39b0
                                            try clear c40
                                            try clear c40b0
                                            try clear c41
                                            try clear c41b0
                                            try clear c41b1
                                            try clear c45
                                            try clear c45b0
                                            try clear c46
                                            try clear c46b0
                                            try clear c47
                                            try clear c47b0
                                            try clear c48
                                            try clear c48b0
                                            try clear c49
                                            try clear c49b0
                                            try clear c49b1
                                            try clear hx275_0
                                            try clear hx277_0
                                            try clear hx278_0
                                            try clear hx279_0
                                            try clear hx280_0
                                            try clear hx281_0
                                            try clear hx282_0
                                            try clear hx283_0
                                            try clear p2
                                            try clear p27
                                            try clear p275
                                            try clear p277
                                            try clear p278
                                            try clear p279
                                            try clear p28
                                            try clear p280
                                            try clear p281
                                            try clear p282
                                            try clear p283
                                            try clear p6
                                            try clear q2
                                            try clear q27
                                            try clear q275
                                            try clear q277
                                            try clear q278
                                            try clear q279
                                            try clear q28
                                            try clear q280
                                            try clear q281
                                            try clear q282
                                            try clear q283
                                            obtain ⟨x13_7, x16_7, rfl, rfl, HA, HK7, HO_5, HO_7, HO_9, HB⟩ := hrel
                                            cases gk with
                                            | zero => exact absurd HA.out (by simp [fringelaw10_RingFactors.l3])
                                            | succ k7 =>
                                              have H := HA.out
                                              clear HA
                                              simp only [fringelaw10_RingFactors.l3] at H
                                              by_cases c53 : x16_7 < (t270.length : Int)
                                              · rw [if_pos c53] at H
                                                have c53b0 : decide (x16_7 < (t270.length : Int)) = true := decide_eq_true c53
                                                clear c53
                                                by_cases c54 : 0 ≤ x16_7
                                                · rw [if_pos c54] at H
                                                  have c54b0 : decide (0 ≤ x16_7) = true := decide_eq_true c54
                                                  clear c54
                                                  by_cases c55 : 0 ≤ x12_3
                                                  · rw [if_pos c55] at H
                                                    have c55b0 : decide (0 ≤ x12_3) = true := decide_eq_true c55
                                                    clear c55
                                                    by_cases c56 : x12_3 < (t270.length : Int)
                                                    · rw [if_pos c56] at H
                                                      have c56b0 : decide (x12_3 < (t270.length : Int)) = true := decide_eq_true c56
                                                      clear c56
                                                      by_cases c57 : (rd t270 x16_7) = (rd t270 x12_3)
                                                      · rw [if_pos c57] at H
                                                        have c57b0 : ((rd t270 x16_7) == (rd t270 x12_3)) = true := beq_iff_eq.mpr c57
                                                        have c57b1 : ((rd t270 x16_7) != (rd t270 x12_3)) = false := bne_eq_false_iff_eq.mpr c57
                                                        clear c57
                                                        have H' := Aside0.mk H
                                                        clear H
                                                        have p284 : 0 ≤ (x16_7 : Int) := of_decide_eq_true (by first | (with_reducible assumption) | assumption)
                                                        have q284 : x16_7 < (t270.length : Int) := of_decide_eq_true (by first | (with_reducible assumption) | assumption)
                                                        obtain ⟨ad284, e284, hx284_0⟩ := Kd.at_int (Kd.R_reads' HO_9.out).2.2 x16_7 p284 q284
                                                        obtain rfl : ad279 = ad284 := (by injection e284)
                                                        replace p284 := eq_true p284
                                                        replace q284 := eq_true q284
                                                        have p285 : 0 ≤ (x12_3 : Int) := of_decide_eq_true (by first | (with_reducible assumption) | assumption)
                                                        have q285 : x12_3 < (t270.length : Int) := of_decide_eq_true (by first | (with_reducible assumption) | assumption)
                                                        obtain ⟨ad285, e285, hx285_0⟩ := Kd.at_int (Kd.R_reads' HO_9.out).2.2 x12_3 p285 q285
                                                        obtain rfl : ad279 = ad285 := (by injection e285)
                                                        replace p285 := eq_true p285
                                                        replace q285 := eq_true q285
                                                        go_wp2
                                                        repeat (go_quiet (fail); try go_wp2)
                                                        go_roundg k7
                                                        case measure => have := HJ2.out; have := HJ12.out; have := HK3.out; have := HJ24.out; have := HK5.out; have := HK6.out; have := HK7.out; omega
                                                        case rel => exact ⟨(wrap64 (x13_7 - 1)), (wrap64 (x16_7 + 1)), (by first | rfl | (simp; done) | (simp [*]; done)), (by first | rfl | (simp; done) | (simp [*]; done)), H', ⟨by have := HJ2.out; have := HJ12.out; have := HK3.out; have := HJ24.out; have := HK5.out; have := HK6.out; have := HK7.out; omega⟩, ⟨by (with_reducible repeat (first | apply Kd.R_alloc | apply Kd.R_drewN | apply Kd.R_drew)); exact HO_5.out⟩, ⟨by (with_reducible repeat (first | apply Kd.R_alloc | apply Kd.R_drewN | apply Kd.R_drew)); exact HO_7.out⟩, ⟨by (with_reducible repeat (first | apply Kd.R_alloc | apply Kd.R_drewN | apply Kd.R_drew)); exact HO_9.out⟩, ⟨by repeat (first | (with_reducible first | exact HB.out | apply below_alloc | apply pw_below_drewN | apply below_drew1) | exact HB.out)⟩⟩
                                                      · rw [if_neg c57] at H
                                                        have c57b0 : ((rd t270 x16_7) == (rd t270 x12_3)) = false := beq_eq_false_iff_ne.mpr c57
                                                        have c57b1 : ((rd t270 x16_7) != (rd t270 x12_3)) = true := bne_iff_ne.mpr c57
                                                        have H' := Aside0.mk H
                                                        clear H
                                                        have p284 : 0 ≤ (x16_7 : Int) := of_decide_eq_true (by first | (with_reducible assumption) | assumption)
                                                        have q284 : x16_7 < (t270.length : Int) := of_decide_eq_true (by first | (with_reducible assumption) | assumption)
                                                        obtain ⟨ad284, e284, hx284_0⟩ := Kd.at_int (Kd.R_reads' HO_9.out).2.2 x16_7 p284 q284
                                                        obtain rfl : ad279 = ad284 := (by injection e284)
                                                        replace p284 := eq_true p284
                                                        replace q284 := eq_true q284
                                                        have p285 : 0 ≤ (x12_3 : Int) := of_decide_eq_true (by first | (with_reducible assumption) | assumption)
                                                        have q285 : x12_3 < (t270.length : Int) := of_decide_eq_true (by first | (with_reducible assumption) | assumption)
                                                        obtain ⟨ad285, e285, hx285_0⟩ := Kd.at_int (Kd.R_reads' HO_9.out).2.2 x12_3 p285 q285
                                                        obtain rfl : ad279 = ad285 := (by injection e285)
                                                        replace p285 := eq_true p285
                                                        replace q285 := eq_true q285
                                                        go_wp2
                                                        repeat (go_quiet (fail); try go_wp2)
                                                        go_roundg k7
                                                        case measure => have := HJ2.out; have := HJ12.out; have := HK3.out; have := HJ24.out; have := HK5.out; have := HK6.out; have := HK7.out; omega
                                                        case rel => exact ⟨(x13_7), (wrap64 (x16_7 + 1)), (by first | rfl | (simp; done) | (simp [*]; done)), (by first | rfl | (simp; done) | (simp [*]; done)), H', ⟨by have := HJ2.out; have := HJ12.out; have := HK3.out; have := HJ24.out; have := HK5.out; have := HK6.out; have := HK7.out; omega⟩, ⟨by (with_reducible repeat (first | apply Kd.R_alloc | apply Kd.R_drewN | apply Kd.R_drew)); exact HO_5.out⟩, ⟨by (with_reducible repeat (first | apply Kd.R_alloc | apply Kd.R_drewN | apply Kd.R_drew)); exact HO_7.out⟩, ⟨by (with_reducible repeat (first | apply Kd.R_alloc | apply Kd.R_drewN | apply Kd.R_drew)); exact HO_9.out⟩, ⟨by repeat (first | (with_reducible first | exact HB.out | apply below_alloc | apply pw_below_drewN | apply below_drew1) | exact HB.out)⟩⟩
                                                    · rw [if_neg c56] at H
                                                      exact absurd H (by simp)
                                                  · rw [if_neg c55] at H
                                                    exact absurd H (by simp)
                                                · rw [if_neg c54] at H
                                                  exact absurd H (by simp)
                                              · rw [if_neg c53] at H
                                                have c53b0 : decide (x16_7 < (t270.length : Int)) = false := decide_eq_false c53
                                                clear c53
                                                by_cases c58 : x13_7 = 0
                                                · rw [if_pos c58] at H
                                                  have c58b0 : (x13_7 == 0) = true := beq_iff_eq.mpr c58
                                                  have c58b1 : (x13_7 != 0) = false := bne_eq_false_iff_eq.mpr c58
                                                  clear c58
                                                  have H' := Aside0.mk H
                                                  clear H
                                                  go_wp2
                                                  repeat (go_quiet (fail); try go_wp2)
                                                  go_roundg k7
                                                  case measure => have := HJ2.out; have := HJ12.out; have := HK3.out; have := HJ24.out; have := HK5.out; have := HK6.out; have := HK7.out; omega
                                                  case rel => exact ⟨((wrap64 (x11_3 * (rd t270 x12_3)))), (wrap64 (x12_3 + 1)), (by first | rfl | (simp; done) | (simp [*]; done)), (by first | rfl | (simp; done) | (simp [*]; done)), H', ⟨by have := HJ2.out; have := HJ12.out; have := HK3.out; have := HJ24.out; have := HK5.out; have := HK6.out; have := HK7.out; omega⟩, ⟨by (with_reducible repeat (first | apply Kd.R_alloc | apply Kd.R_drewN | apply Kd.R_drew)); exact HO_5.out⟩, ⟨by (with_reducible repeat (first | apply Kd.R_alloc | apply Kd.R_drewN | apply Kd.R_drew)); exact HO_7.out⟩, ⟨by (with_reducible repeat (first | apply Kd.R_alloc | apply Kd.R_drewN | apply Kd.R_drew)); exact HO_9.out⟩, ⟨by repeat (first | (with_reducible first | exact HB.out | apply below_alloc | apply pw_below_drewN | apply below_drew1) | exact HB.out)⟩⟩
                                                · rw [if_neg c58] at H
                                                  have c58b0 : (x13_7 == 0) = false := beq_eq_false_iff_ne.mpr c58
                                                  have c58b1 : (x13_7 != 0) = true := bne_iff_ne.mpr c58
                                                  exact absurd ((Option.some.inj H).trans HRT.out) (by decide)
                            · rw [if_neg c36] at H
                              exact absurd H (by simp)
                          · rw [if_neg c35] at H
                            exact absurd H (by simp)
                  · rw [if_neg c24] at H
                    have c24b0 : decide (x12_3 < (t270.length : Int)) = false := decide_eq_false c24
                    clear c24
                    by_cases c59 : x11_3 = (wrap64 (a0 * a1))
                    · rw [if_pos c59] at H
                      have c59b0 : (x11_3 == (wrap64 (a0 * a1))) = true := beq_iff_eq.mpr c59
                      have c59b1 : (x11_3 != (wrap64 (a0 * a1))) = false := bne_eq_false_iff_eq.mpr c59
                      clear c59
                      replace H := Option.bind_eq_some_iff.mp H
                      obtain ⟨t274, A600, H⟩ := H
                      replace H : (some t274) = some r := H
                      have A60 := Aside0.mk A600
                      clear A600
                      obtain rfl := Option.some.inj H
                      obtain ⟨Ao61, co61, eo61⟩ := Kd.R_slice HO_9.out
                      subst eo61
                      go_wp2_with (first | (go_at_call 26; (with_reducible refine (fringelaw10_alive.calls  t274 _ A60.out).mono ?_); rintro e w62 ⟨rfl, hb⟩; have n0_ := Aside0.mk (Kd.R_below (by (with_reducible repeat (first | apply Kd.R_alloc | apply Kd.R_drewN | apply Kd.R_drew)); exact HO_5.out) hb); have n1_ := Aside0.mk (Kd.R_below (by (with_reducible repeat (first | apply Kd.R_alloc | apply Kd.R_drewN | apply Kd.R_drew)); exact HO_7.out) hb); have n2_ := Aside0.mk (Kd.R_below (by (with_reducible repeat (first | apply Kd.R_alloc | apply Kd.R_drewN | apply Kd.R_drew)); exact HO_9.out) hb); have n3_ := Aside0.mk (below_step (by repeat (first | (with_reducible first | exact HB.out | apply below_alloc | apply pw_below_drewN | apply below_drew1) | exact HB.out)) hb); clear HO_5; clear HO_7; clear HO_9; clear HB; have HO_5 := n0_; have HO_7 := n1_; have HO_9 := n2_; have HB := n3_; clear n0_ n1_ n2_ n3_; (try clear hb); (try clear hb2); (try clear hk); (try clear hi)))
                      repeat (go_quiet (first | (go_at_call 26; (with_reducible refine (fringelaw10_alive.calls  t274 _ A60.out).mono ?_); rintro e w62 ⟨rfl, hb⟩; have n0_ := Aside0.mk (Kd.R_below (by (with_reducible repeat (first | apply Kd.R_alloc | apply Kd.R_drewN | apply Kd.R_drew)); exact HO_5.out) hb); have n1_ := Aside0.mk (Kd.R_below (by (with_reducible repeat (first | apply Kd.R_alloc | apply Kd.R_drewN | apply Kd.R_drew)); exact HO_7.out) hb); have n2_ := Aside0.mk (Kd.R_below (by (with_reducible repeat (first | apply Kd.R_alloc | apply Kd.R_drewN | apply Kd.R_drew)); exact HO_9.out) hb); have n3_ := Aside0.mk (below_step (by repeat (first | (with_reducible first | exact HB.out | apply below_alloc | apply pw_below_drewN | apply below_drew1) | exact HB.out)) hb); clear HO_5; clear HO_7; clear HO_9; clear HB; have HO_5 := n0_; have HO_7 := n1_; have HO_9 := n2_; have HB := n3_; clear n0_ n1_ n2_ n3_; (try clear hb); (try clear hb2); (try clear hk); (try clear hi))); try go_wp2_with (first | (go_at_call 26; (with_reducible refine (fringelaw10_alive.calls  t274 _ A60.out).mono ?_); rintro e w62 ⟨rfl, hb⟩; have n0_ := Aside0.mk (Kd.R_below (by (with_reducible repeat (first | apply Kd.R_alloc | apply Kd.R_drewN | apply Kd.R_drew)); exact HO_5.out) hb); have n1_ := Aside0.mk (Kd.R_below (by (with_reducible repeat (first | apply Kd.R_alloc | apply Kd.R_drewN | apply Kd.R_drew)); exact HO_7.out) hb); have n2_ := Aside0.mk (Kd.R_below (by (with_reducible repeat (first | apply Kd.R_alloc | apply Kd.R_drewN | apply Kd.R_drew)); exact HO_9.out) hb); have n3_ := Aside0.mk (below_step (by repeat (first | (with_reducible first | exact HB.out | apply below_alloc | apply pw_below_drewN | apply below_drew1) | exact HB.out)) hb); clear HO_5; clear HO_7; clear HO_9; clear HB; have HO_5 := n0_; have HO_7 := n1_; have HO_9 := n2_; have HB := n3_; clear n0_ n1_ n2_ n3_; (try clear hb); (try clear hb2); (try clear hk); (try clear hi))))
                      go_ret
                      exact ⟨by first | rfl | (simp [errW_none, errW_some] <;> rfl) | (simp [*, errW_none, errW_some] <;> rfl), by repeat (first | (with_reducible first | exact HB.out | apply below_alloc | apply pw_below_drewN | apply below_drew1) | exact HB.out)⟩
                    · rw [if_neg c59] at H
                      have c59b0 : (x11_3 == (wrap64 (a0 * a1))) = false := beq_eq_false_iff_ne.mpr c59
                      have c59b1 : (x11_3 != (wrap64 (a0 * a1))) = true := bne_iff_ne.mpr c59
                      exact absurd ((Option.some.inj H).trans HRT.out) (by decide)

/-- THE ONE PURE STATEMENT of fringelaw10_RingFactors: yours. -/
def fringelaw10_RingFactors.Pure : Prop := ∀ (a0 : Int) (a1 : Int), (Lit.int .i64 a0).wf = true → (Lit.int .i64 a1).wf = true → ∃ k, fringelaw10_RingFactors.f k a0 a1 = some true
theorem fringelaw10_RingFactors.walk (P : fringelaw10_RingFactors.Pure) (a0 : Int) (a1 : Int) (w : World) (w0 : (Lit.int .i64 a0).wf = true) (w1 : (Lit.int .i64 a1).wf = true) :
    Calls Try.prog 7 #[.int .i64 a0, .int .i64 a1] w fun e w' => e = .returned (.bool true) ∧ Below w.heap.size w w' := by
  obtain ⟨k, h⟩ := P a0 a1 w0 w1
  refine (fringelaw10_RingFactors.calls k a0 a1 true w rfl h).mono ?_
  rintro e w' ⟨rfl, hd⟩
  exact ⟨rfl, hd⟩

end Go.Proofs.Ytehbmpdmdfiagaa.PAll
