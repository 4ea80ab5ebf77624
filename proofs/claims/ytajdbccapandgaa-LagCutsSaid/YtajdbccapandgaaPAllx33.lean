-- Written by a program of this session, after the kit's print
import Derived.Test.YtajdbccapandgaaPAllx0
import Derived.Test.YtajdbccapandgaaPAllx6
import Derived.Test.YtajdbccapandgaaPAllx10
import Derived.Test.YtajdbccapandgaaPAllx12
import Derived.Test.YtajdbccapandgaaPAllx21
import Derived.Test.YtajdbccapandgaaPAllx22
import Derived.Test.YtajdbccapandgaaPAllx31
namespace Go.Proofs.Ytajdbccapandgaa.PAll
open Go.RowKit Go.Proofs.YtajdbccapandgaaW.PrintWords Go.Proofs.YtajdbccapandgaaW.PrintLast Go.Proofs.YtajdbccapandgaaW.PrintMore
attribute [local go_sem] max2_int min2_int max_two min_two max_three min_three max_four min_four   -- for this text's walks alone
set_option linter.unusedVariables false
set_option linter.unusedSimpArgs false

/-! ### fringelaw16_LagCuts: function 8 -/
def fringelaw16_LagCuts.j0 : Nat → List Int → List Int → Int → Int → Bool → Bool → Option (Bool)
  | 0, _, _, _, _, _, _ => none
  | k + 1, x0, x1, x2, x3, x9, x51 => if x51 = true then (some x9) else ((lag_Cut.f x0 x2).bind fun bt503 => ((lag_Of.f k bt503.1 x1 x3).bind fun bt510 => ((lag_Of.f k bt503.2.1 x1 x3).bind fun bt514 => ((lag_Of.f k x0 x1 x3).bind fun bt518 => ((lag_Add.f k bt510.1 bt514.1).bind fun bt522 => (if x9 = true then (if bt503.2.2 = 0 then (if bt510.2 = 0 then (if bt514.2 = 0 then (if bt518.2 = 0 then (if bt522.2 = 0 then (if (bt503.1.length : Int) = (x0.length : Int) then (if (bt503.2.1.length : Int) = (x0.length : Int) then ((fringeref16_Same.f k bt522.1 bt518.1).bind fun t526 => (some t526)) else (some false)) else (some false)) else (some false)) else (some false)) else (some false)) else (some false)) else (some false)) else (some false)))))))
def fringelaw16_LagCuts.f (k : Nat) (l0 : List Int) (l1 : List Int) (a2 : Int) (a3 : Int) : Option (Bool) := (fringelaw16_alive.f).bind fun t500 => ((fringelaw16_fit.f k l0).bind fun t501 => (if t501 = true then ((fringelaw16_fit.f k l1).bind fun t502 => (if t502 = true then (if a2 < 0 then (fringelaw16_LagCuts.j0 k l0 l1 a2 a3 t500 true) else (if a2 > (l0.length : Int) then (fringelaw16_LagCuts.j0 k l0 l1 a2 a3 t500 true) else (if a3 < 0 then (fringelaw16_LagCuts.j0 k l0 l1 a2 a3 t500 true) else (if a3 > 255 then (fringelaw16_LagCuts.j0 k l0 l1 a2 a3 t500 true) else (fringelaw16_LagCuts.j0 k l0 l1 a2 a3 t500 (!t500)))))) else (fringelaw16_LagCuts.j0 k l0 l1 a2 a3 t500 true))) else (fringelaw16_LagCuts.j0 k l0 l1 a2 a3 t500 true)))
theorem fringelaw16_LagCuts.mono_l : ∀ k, (∀ y0 y1 y2 y3 y4 y5, LeO (fringelaw16_LagCuts.j0 k y0 y1 y2 y3 y4 y5) (fringelaw16_LagCuts.j0 (k + 1) y0 y1 y2 y3 y4 y5))
  | 0 => fun _ _ _ _ _ _ r h => by simp [fringelaw16_LagCuts.j0] at h
  | k + 1 => by
    have ih0 := fringelaw16_LagCuts.mono_l k
    · intro y0 y1 y2 y3 y4 y5
      unfold fringelaw16_LagCuts.j0
      repeat' first
      | (with_reducible exact ih0 _ _ _ _ _ _)
      | (with_reducible exact fringelaw16_fit.mono _ _)
      | (with_reducible exact fringeref16_Same.mono _ _ _)
      | (with_reducible exact lag_Add.mono _ _ _)
      | (with_reducible exact lag_Of.mono _ _ _ _)
      | (with_reducible exact LeO.refl _)
      | (with_reducible exact LeO.none _)
      | (with_reducible refine LeO.ite ?_ ?_)
      | (with_reducible refine LeO.bind ?_ (fun _ => ?_))
      | exact ih0 _ _ _ _ _ _
      | exact fringelaw16_fit.mono _ _
      | exact fringeref16_Same.mono _ _ _
      | exact lag_Add.mono _ _ _
      | exact lag_Of.mono _ _ _ _
      | exact LeO.none _
      | refine LeO.ite ?_ ?_
      | refine LeO.bind ?_ (fun _ => ?_)
theorem fringelaw16_LagCuts.mono : ∀ a0 a1 a2 a3 k, LeO (fringelaw16_LagCuts.f k a0 a1 a2 a3) (fringelaw16_LagCuts.f (k + 1) a0 a1 a2 a3) := by
  intro a0 a1 a2 a3 k
  have ih0 := fringelaw16_LagCuts.mono_l k
  unfold fringelaw16_LagCuts.f
  repeat' first
      | (with_reducible exact ih0 _ _ _ _ _ _)
      | (with_reducible exact fringelaw16_fit.mono _ _)
      | (with_reducible exact fringeref16_Same.mono _ _ _)
      | (with_reducible exact lag_Add.mono _ _ _)
      | (with_reducible exact lag_Of.mono _ _ _ _)
      | (with_reducible exact LeO.refl _)
      | (with_reducible exact LeO.none _)
      | (with_reducible refine LeO.ite ?_ ?_)
      | (with_reducible refine LeO.bind ?_ (fun _ => ?_))
      | exact ih0 _ _ _ _ _ _
      | exact fringelaw16_fit.mono _ _
      | exact fringeref16_Same.mono _ _ _
      | exact lag_Add.mono _ _ _
      | exact lag_Of.mono _ _ _ _
      | exact LeO.none _
      | refine LeO.ite ?_ ?_
      | refine LeO.bind ?_ (fun _ => ?_)
set_option maxHeartbeats 8000000 in
set_option maxRecDepth 100000 in
theorem fringelaw16_LagCuts.calls (k : Nat) (A0 : Option Addr) (c0 : Nat) (l0 : List Int) (A1 : Option Addr) (c1 : Nat) (l1 : List Int) (a2 : Int) (a3 : Int) (r : Bool) (w : World) (hr0 : Kd.C (Kd.int .i64) w A0 l0.length l0) (hc0 : l0.length ≤ c0) (hr1 : Kd.C (Kd.int .i64) w A1 l1.length l1) (hc1 : l1.length ≤ c1) (hrt : r = true) (h : fringelaw16_LagCuts.f k l0 l1 a2 a3 = some r) :
    Calls Try.prog 8 #[.slice A0 l0.length c0, .slice A1 l1.length c1, .int .i64 a2, .int .i64 a3] w fun e w' => e = .returned (.bool r) ∧ Below w.heap.size w w' := by
  have HR0 := Aside0.mk hr0
  have HC0 := Aside0.mk hc0
  clear hr0 hc0
  have HR1 := Aside0.mk hr1
  have HC1 := Aside0.mk hc1
  clear hr1 hc1
  have HB := Aside0.mk (Below.refl w.heap.size w)
  have HRT := Aside0.mk hrt
  clear hrt
  have H : ((fringelaw16_alive.f).bind fun t500 => ((fringelaw16_fit.f k l0).bind fun t501 => (if t501 = true then ((fringelaw16_fit.f k l1).bind fun t502 => (if t502 = true then (if a2 < 0 then (fringelaw16_LagCuts.j0 k l0 l1 a2 a3 t500 true) else (if a2 > (l0.length : Int) then (fringelaw16_LagCuts.j0 k l0 l1 a2 a3 t500 true) else (if a3 < 0 then (fringelaw16_LagCuts.j0 k l0 l1 a2 a3 t500 true) else (if a3 > 255 then (fringelaw16_LagCuts.j0 k l0 l1 a2 a3 t500 true) else (fringelaw16_LagCuts.j0 k l0 l1 a2 a3 t500 (!t500)))))) else (fringelaw16_LagCuts.j0 k l0 l1 a2 a3 t500 true))) else (fringelaw16_LagCuts.j0 k l0 l1 a2 a3 t500 true)))) = some r := h
  clear h
  replace H := Option.bind_eq_some_iff.mp H
  obtain ⟨t500, A50, H⟩ := H
  replace H : ((fringelaw16_fit.f k l0).bind fun t501 => (if t501 = true then ((fringelaw16_fit.f k l1).bind fun t502 => (if t502 = true then (if a2 < 0 then (fringelaw16_LagCuts.j0 k l0 l1 a2 a3 t500 true) else (if a2 > (l0.length : Int) then (fringelaw16_LagCuts.j0 k l0 l1 a2 a3 t500 true) else (if a3 < 0 then (fringelaw16_LagCuts.j0 k l0 l1 a2 a3 t500 true) else (if a3 > 255 then (fringelaw16_LagCuts.j0 k l0 l1 a2 a3 t500 true) else (fringelaw16_LagCuts.j0 k l0 l1 a2 a3 t500 (!t500)))))) else (fringelaw16_LagCuts.j0 k l0 l1 a2 a3 t500 true))) else (fringelaw16_LagCuts.j0 k l0 l1 a2 a3 t500 true))) = some r := H
  have A5 := Aside0.mk A50
  clear A50
  have HC6 := Aside0.mk H
  clear H
  go_enter Try.func8, Try.ntmps8
  go_upto_region 2 with (first | ((with_reducible refine gate_callee (f := 16) rfl ?_); refine goesL_ (some 21) rfl rfl Try.func16 (by kernel_rfl) rfl #[] rfl (by (try simp only [List.map_toArray, List.map_cons, List.map_nil]); first | done | rfl | (simp only [List.length_drop, List.length_take]; rfl)) ?_; (with_reducible refine (fringelaw16_alive.calls  t500 _ A5.out).mono ?_); rintro e w7 ⟨rfl, hb⟩; refine ⟨_, rfl, ?_⟩; have n0_ := Aside0.mk (below_step (by repeat (first | (with_reducible first | exact HB.out | apply below_alloc | apply pw_below_drewN | apply below_drew1) | exact HB.out)) hb); clear HB; have HB := n0_; clear n0_; (try clear hb); (try clear hb2); (try clear hk); (try clear hi)))
  (try simp only [Act.put, List.setIfInBounds_toArray, List.set_cons_zero, List.set_cons_succ])
  go_cut [51] (fun v51 wc => ∃ (kq : Nat) (x51_5 : Bool), v51 = .bool x51_5 ∧ Aside0 (fringelaw16_LagCuts.j0 kq l0 l1 a2 a3 t500 x51_5 = some r) ∧ Aside0 (kq ≤ k) ∧ Aside0 (Below w.heap.size w wc))
  case first =>
    have H := HC6.out
    clear HC6
    replace H := Option.bind_eq_some_iff.mp H
    obtain ⟨t501, A80, H⟩ := H
    replace H : (if t501 = true then ((fringelaw16_fit.f k l1).bind fun t502 => (if t502 = true then (if a2 < 0 then (fringelaw16_LagCuts.j0 k l0 l1 a2 a3 t500 true) else (if a2 > (l0.length : Int) then (fringelaw16_LagCuts.j0 k l0 l1 a2 a3 t500 true) else (if a3 < 0 then (fringelaw16_LagCuts.j0 k l0 l1 a2 a3 t500 true) else (if a3 > 255 then (fringelaw16_LagCuts.j0 k l0 l1 a2 a3 t500 true) else (fringelaw16_LagCuts.j0 k l0 l1 a2 a3 t500 (!t500)))))) else (fringelaw16_LagCuts.j0 k l0 l1 a2 a3 t500 true))) else (fringelaw16_LagCuts.j0 k l0 l1 a2 a3 t500 true)) = some r := H
    have A8 := Aside0.mk A80
    clear A80
    by_cases c9 : t501 = true
    rotate_left
    · replace c9 := Bool.eq_false_iff.mpr c9
      subst c9
      have H1 : (fringelaw16_LagCuts.j0 k l0 l1 a2 a3 t500 true) = some r := by rw [if_neg (show ¬ (false = true) by decide)] at H; exact H
      clear H
      have H := H1
      clear H1
      have H' := Aside0.mk H
      clear H
      go_wp2_with (first | ((with_reducible refine gate_callee (f := 17) rfl ?_); refine goesL_ (some 23) rfl rfl Try.func17 (by kernel_rfl) rfl #[.slice A0 l0.length c0] rfl (by (try simp only [List.map_toArray, List.map_cons, List.map_nil]); first | done | rfl | (simp only [List.length_drop, List.length_take]; rfl)) ?_; (with_reducible refine (fringelaw16_fit.calls k _ _ l0 false _ ?side1 ?side2 A8.out).mono ?_); (case side1 => repeat (first | exact (Kd.C_below HR0.out HB.out) | (with_reducible refine Kd.C_alloc ?_ _) | (with_reducible refine Kd.C_drewN ?_ _) | (with_reducible refine Kd.C_drew ?_))); (case side2 => exact HC0.out); rintro e w' ⟨rfl, ⟨nd, rfl⟩⟩; refine ⟨_, rfl, ?_⟩))
      go_meet
      case rel => exact ⟨_, (true), (by first | rfl | (simp; done) | (simp [*]; done)), H', ⟨by first | omega | exact Nat.le_refl _⟩, ⟨by repeat (first | (with_reducible first | exact HB.out | apply below_alloc | apply pw_below_drewN | apply below_drew1) | exact HB.out)⟩⟩
    subst c9
    have H1 : ((fringelaw16_fit.f k l1).bind fun t502 => (if t502 = true then (if a2 < 0 then (fringelaw16_LagCuts.j0 k l0 l1 a2 a3 t500 true) else (if a2 > (l0.length : Int) then (fringelaw16_LagCuts.j0 k l0 l1 a2 a3 t500 true) else (if a3 < 0 then (fringelaw16_LagCuts.j0 k l0 l1 a2 a3 t500 true) else (if a3 > 255 then (fringelaw16_LagCuts.j0 k l0 l1 a2 a3 t500 true) else (fringelaw16_LagCuts.j0 k l0 l1 a2 a3 t500 (!t500)))))) else (fringelaw16_LagCuts.j0 k l0 l1 a2 a3 t500 true))) = some r := by rw [if_pos rfl] at H; exact H
    clear H
    have H := H1
    clear H1
    replace H := Option.bind_eq_some_iff.mp H
    obtain ⟨t502, A100, H⟩ := H
    replace H : (if t502 = true then (if a2 < 0 then (fringelaw16_LagCuts.j0 k l0 l1 a2 a3 t500 true) else (if a2 > (l0.length : Int) then (fringelaw16_LagCuts.j0 k l0 l1 a2 a3 t500 true) else (if a3 < 0 then (fringelaw16_LagCuts.j0 k l0 l1 a2 a3 t500 true) else (if a3 > 255 then (fringelaw16_LagCuts.j0 k l0 l1 a2 a3 t500 true) else (fringelaw16_LagCuts.j0 k l0 l1 a2 a3 t500 (!t500)))))) else (fringelaw16_LagCuts.j0 k l0 l1 a2 a3 t500 true)) = some r := H
    have A10 := Aside0.mk A100
    clear A100
    by_cases c11 : t502 = true
    rotate_left
    · replace c11 := Bool.eq_false_iff.mpr c11
      subst c11
      have H1 : (fringelaw16_LagCuts.j0 k l0 l1 a2 a3 t500 true) = some r := by rw [if_neg (show ¬ (false = true) by decide)] at H; exact H
      clear H
      have H := H1
      clear H1
      have H' := Aside0.mk H
      clear H
      go_wp2_with (first | ((with_reducible refine gate_callee (f := 17) rfl ?_); refine goesL_ (some 23) rfl rfl Try.func17 (by kernel_rfl) rfl #[.slice A0 l0.length c0] rfl (by (try simp only [List.map_toArray, List.map_cons, List.map_nil]); first | done | rfl | (simp only [List.length_drop, List.length_take]; rfl)) ?_; (with_reducible refine (fringelaw16_fit.calls k _ _ l0 true _ ?side1 ?side2 A8.out).mono ?_); (case side1 => repeat (first | exact (Kd.C_below HR0.out HB.out) | (with_reducible refine Kd.C_alloc ?_ _) | (with_reducible refine Kd.C_drewN ?_ _) | (with_reducible refine Kd.C_drew ?_))); (case side2 => exact HC0.out); rintro e w' ⟨rfl, ⟨nd, rfl⟩⟩; refine ⟨_, rfl, ?_⟩) | (go_at_call 17; (with_reducible refine (fringelaw16_fit.calls k _ _ l1 false _ ?side1 ?side2 A10.out).mono ?_); (case side1 => repeat (first | exact (Kd.C_below HR1.out (by repeat (first | (with_reducible first | exact HB.out | apply below_alloc | apply pw_below_drewN | apply below_drew1) | exact HB.out))) | (with_reducible refine Kd.C_alloc ?_ _) | (with_reducible refine Kd.C_drewN ?_ _) | (with_reducible refine Kd.C_drew ?_))); (case side2 => exact HC1.out); rintro e w' ⟨rfl, ⟨nd, rfl⟩⟩))
      go_meet
      case rel => exact ⟨_, (true), (by first | rfl | (simp; done) | (simp [*]; done)), H', ⟨by first | omega | exact Nat.le_refl _⟩, ⟨by repeat (first | (with_reducible first | exact HB.out | apply below_alloc | apply pw_below_drewN | apply below_drew1) | exact HB.out)⟩⟩
    subst c11
    have H1 : (if a2 < 0 then (fringelaw16_LagCuts.j0 k l0 l1 a2 a3 t500 true) else (if a2 > (l0.length : Int) then (fringelaw16_LagCuts.j0 k l0 l1 a2 a3 t500 true) else (if a3 < 0 then (fringelaw16_LagCuts.j0 k l0 l1 a2 a3 t500 true) else (if a3 > 255 then (fringelaw16_LagCuts.j0 k l0 l1 a2 a3 t500 true) else (fringelaw16_LagCuts.j0 k l0 l1 a2 a3 t500 (!t500)))))) = some r := by rw [if_pos rfl] at H; exact H
    clear H
    have H := H1
    clear H1
    by_cases c12 : a2 < 0
    · rw [if_pos c12] at H
      have c12b0 : decide (a2 < 0) = true := decide_eq_true c12
      clear c12
      (first | rw [c12b0] | (simp only [i64_w, i32_w]; rw [c12b0]) | skip)
      have H' := Aside0.mk H
      clear H
      go_wp2_with (first | ((with_reducible refine gate_callee (f := 17) rfl ?_); refine goesL_ (some 23) rfl rfl Try.func17 (by kernel_rfl) rfl #[.slice A0 l0.length c0] rfl (by (try simp only [List.map_toArray, List.map_cons, List.map_nil]); first | done | rfl | (simp only [List.length_drop, List.length_take]; rfl)) ?_; (with_reducible refine (fringelaw16_fit.calls k _ _ l0 true _ ?side1 ?side2 A8.out).mono ?_); (case side1 => repeat (first | exact (Kd.C_below HR0.out HB.out) | (with_reducible refine Kd.C_alloc ?_ _) | (with_reducible refine Kd.C_drewN ?_ _) | (with_reducible refine Kd.C_drew ?_))); (case side2 => exact HC0.out); rintro e w' ⟨rfl, ⟨nd, rfl⟩⟩; refine ⟨_, rfl, ?_⟩) | (go_at_call 17; (with_reducible refine (fringelaw16_fit.calls k _ _ l1 true _ ?side1 ?side2 A10.out).mono ?_); (case side1 => repeat (first | exact (Kd.C_below HR1.out (by repeat (first | (with_reducible first | exact HB.out | apply below_alloc | apply pw_below_drewN | apply below_drew1) | exact HB.out))) | (with_reducible refine Kd.C_alloc ?_ _) | (with_reducible refine Kd.C_drewN ?_ _) | (with_reducible refine Kd.C_drew ?_))); (case side2 => exact HC1.out); rintro e w' ⟨rfl, ⟨nd, rfl⟩⟩))
      go_meet
      case rel => exact ⟨_, (true), (by first | rfl | (simp; done) | (simp [*]; done)), H', ⟨by first | omega | exact Nat.le_refl _⟩, ⟨by repeat (first | (with_reducible first | exact HB.out | apply below_alloc | apply pw_below_drewN | apply below_drew1) | exact HB.out)⟩⟩
    rw [if_neg c12] at H
    have c12b0 : decide (a2 < 0) = false := decide_eq_false c12
    clear c12
    (first | rw [c12b0] | (simp only [i64_w, i32_w]; rw [c12b0]) | skip)
    by_cases c13 : a2 > (l0.length : Int)
    · rw [if_pos c13] at H
      have c13b0 : decide ((l0.length : Int) < a2) = true := decide_eq_true c13
      clear c13
      have H' := Aside0.mk H
      clear H
      go_wp2_with (first | ((with_reducible refine gate_callee (f := 17) rfl ?_); refine goesL_ (some 23) rfl rfl Try.func17 (by kernel_rfl) rfl #[.slice A0 l0.length c0] rfl (by (try simp only [List.map_toArray, List.map_cons, List.map_nil]); first | done | rfl | (simp only [List.length_drop, List.length_take]; rfl)) ?_; (with_reducible refine (fringelaw16_fit.calls k _ _ l0 true _ ?side1 ?side2 A8.out).mono ?_); (case side1 => repeat (first | exact (Kd.C_below HR0.out HB.out) | (with_reducible refine Kd.C_alloc ?_ _) | (with_reducible refine Kd.C_drewN ?_ _) | (with_reducible refine Kd.C_drew ?_))); (case side2 => exact HC0.out); rintro e w' ⟨rfl, ⟨nd, rfl⟩⟩; refine ⟨_, rfl, ?_⟩) | (go_at_call 17; (with_reducible refine (fringelaw16_fit.calls k _ _ l1 true _ ?side1 ?side2 A10.out).mono ?_); (case side1 => repeat (first | exact (Kd.C_below HR1.out (by repeat (first | (with_reducible first | exact HB.out | apply below_alloc | apply pw_below_drewN | apply below_drew1) | exact HB.out))) | (with_reducible refine Kd.C_alloc ?_ _) | (with_reducible refine Kd.C_drewN ?_ _) | (with_reducible refine Kd.C_drew ?_))); (case side2 => exact HC1.out); rintro e w' ⟨rfl, ⟨nd, rfl⟩⟩))
      go_meet
      case rel => exact ⟨_, (true), (by first | rfl | (simp; done) | (simp [*]; done)), H', ⟨by first | omega | exact Nat.le_refl _⟩, ⟨by repeat (first | (with_reducible first | exact HB.out | apply below_alloc | apply pw_below_drewN | apply below_drew1) | exact HB.out)⟩⟩
    rw [if_neg c13] at H
    have c13b0 : decide ((l0.length : Int) < a2) = false := decide_eq_false c13
    clear c13
    by_cases c14 : a3 < 0
    · rw [if_pos c14] at H
      have c14b0 : decide (a3 < 0) = true := decide_eq_true c14
      clear c14
      have H' := Aside0.mk H
      clear H
      go_wp2_with (first | ((with_reducible refine gate_callee (f := 17) rfl ?_); refine goesL_ (some 23) rfl rfl Try.func17 (by kernel_rfl) rfl #[.slice A0 l0.length c0] rfl (by (try simp only [List.map_toArray, List.map_cons, List.map_nil]); first | done | rfl | (simp only [List.length_drop, List.length_take]; rfl)) ?_; (with_reducible refine (fringelaw16_fit.calls k _ _ l0 true _ ?side1 ?side2 A8.out).mono ?_); (case side1 => repeat (first | exact (Kd.C_below HR0.out HB.out) | (with_reducible refine Kd.C_alloc ?_ _) | (with_reducible refine Kd.C_drewN ?_ _) | (with_reducible refine Kd.C_drew ?_))); (case side2 => exact HC0.out); rintro e w' ⟨rfl, ⟨nd, rfl⟩⟩; refine ⟨_, rfl, ?_⟩) | (go_at_call 17; (with_reducible refine (fringelaw16_fit.calls k _ _ l1 true _ ?side1 ?side2 A10.out).mono ?_); (case side1 => repeat (first | exact (Kd.C_below HR1.out (by repeat (first | (with_reducible first | exact HB.out | apply below_alloc | apply pw_below_drewN | apply below_drew1) | exact HB.out))) | (with_reducible refine Kd.C_alloc ?_ _) | (with_reducible refine Kd.C_drewN ?_ _) | (with_reducible refine Kd.C_drew ?_))); (case side2 => exact HC1.out); rintro e w' ⟨rfl, ⟨nd, rfl⟩⟩))
      go_meet
      case rel => exact ⟨_, (true), (by first | rfl | (simp; done) | (simp [*]; done)), H', ⟨by first | omega | exact Nat.le_refl _⟩, ⟨by repeat (first | (with_reducible first | exact HB.out | apply below_alloc | apply pw_below_drewN | apply below_drew1) | exact HB.out)⟩⟩
    rw [if_neg c14] at H
    have c14b0 : decide (a3 < 0) = false := decide_eq_false c14
    clear c14
    by_cases c15 : a3 > 255
    · rw [if_pos c15] at H
      have c15b0 : decide (255 < a3) = true := decide_eq_true c15
      clear c15
      have H' := Aside0.mk H
      clear H
      go_wp2_with (first | ((with_reducible refine gate_callee (f := 17) rfl ?_); refine goesL_ (some 23) rfl rfl Try.func17 (by kernel_rfl) rfl #[.slice A0 l0.length c0] rfl (by (try simp only [List.map_toArray, List.map_cons, List.map_nil]); first | done | rfl | (simp only [List.length_drop, List.length_take]; rfl)) ?_; (with_reducible refine (fringelaw16_fit.calls k _ _ l0 true _ ?side1 ?side2 A8.out).mono ?_); (case side1 => repeat (first | exact (Kd.C_below HR0.out HB.out) | (with_reducible refine Kd.C_alloc ?_ _) | (with_reducible refine Kd.C_drewN ?_ _) | (with_reducible refine Kd.C_drew ?_))); (case side2 => exact HC0.out); rintro e w' ⟨rfl, ⟨nd, rfl⟩⟩; refine ⟨_, rfl, ?_⟩) | (go_at_call 17; (with_reducible refine (fringelaw16_fit.calls k _ _ l1 true _ ?side1 ?side2 A10.out).mono ?_); (case side1 => repeat (first | exact (Kd.C_below HR1.out (by repeat (first | (with_reducible first | exact HB.out | apply below_alloc | apply pw_below_drewN | apply below_drew1) | exact HB.out))) | (with_reducible refine Kd.C_alloc ?_ _) | (with_reducible refine Kd.C_drewN ?_ _) | (with_reducible refine Kd.C_drew ?_))); (case side2 => exact HC1.out); rintro e w' ⟨rfl, ⟨nd, rfl⟩⟩))
      go_meet
      case rel => exact ⟨_, (true), (by first | rfl | (simp; done) | (simp [*]; done)), H', ⟨by first | omega | exact Nat.le_refl _⟩, ⟨by repeat (first | (with_reducible first | exact HB.out | apply below_alloc | apply pw_below_drewN | apply below_drew1) | exact HB.out)⟩⟩
    rw [if_neg c15] at H
    have c15b0 : decide (255 < a3) = false := decide_eq_false c15
    clear c15
    have H' := Aside0.mk H
    clear H
    go_wp2_with (first | ((with_reducible refine gate_callee (f := 17) rfl ?_); refine goesL_ (some 23) rfl rfl Try.func17 (by kernel_rfl) rfl #[.slice A0 l0.length c0] rfl (by (try simp only [List.map_toArray, List.map_cons, List.map_nil]); first | done | rfl | (simp only [List.length_drop, List.length_take]; rfl)) ?_; (with_reducible refine (fringelaw16_fit.calls k _ _ l0 true _ ?side1 ?side2 A8.out).mono ?_); (case side1 => repeat (first | exact (Kd.C_below HR0.out HB.out) | (with_reducible refine Kd.C_alloc ?_ _) | (with_reducible refine Kd.C_drewN ?_ _) | (with_reducible refine Kd.C_drew ?_))); (case side2 => exact HC0.out); rintro e w' ⟨rfl, ⟨nd, rfl⟩⟩; refine ⟨_, rfl, ?_⟩) | (go_at_call 17; (with_reducible refine (fringelaw16_fit.calls k _ _ l1 true _ ?side1 ?side2 A10.out).mono ?_); (case side1 => repeat (first | exact (Kd.C_below HR1.out (by repeat (first | (with_reducible first | exact HB.out | apply below_alloc | apply pw_below_drewN | apply below_drew1) | exact HB.out))) | (with_reducible refine Kd.C_alloc ?_ _) | (with_reducible refine Kd.C_drewN ?_ _) | (with_reducible refine Kd.C_drew ?_))); (case side2 => exact HC1.out); rintro e w' ⟨rfl, ⟨nd, rfl⟩⟩))
    go_meet
    case rel => exact ⟨_, (!t500), (by first | rfl | (simp; done) | (simp [*]; done)), H', ⟨by first | omega | exact Nat.le_refl _⟩, ⟨by repeat (first | (with_reducible first | exact HB.out | apply below_alloc | apply pw_below_drewN | apply below_drew1) | exact HB.out)⟩⟩
  case rest =>
    clear HC6
    try clear c1
    try clear p2
    try clear c8
    try clear c9
    try clear c11
    try clear c12
    try clear c12b0
    try clear c13
    try clear c13b0
    try clear c14
    try clear c14b0
    try clear c15
    try clear c15b0
    obtain ⟨kq, x51_5, rfl, HA, HJ5, HB⟩ := hcut
    cases kq with
    | zero => exact absurd HA.out (by simp [fringelaw16_LagCuts.j0])
    | succ kj5 =>
      have H := HA.out
      clear HA
      simp only [fringelaw16_LagCuts.j0] at H
      by_cases c16 : x51_5 = true
      · subst c16
        have H1 : (some t500) = some r := by rw [if_pos rfl] at H; exact H
        clear H
        have H := H1
        clear H1
        obtain rfl := Option.some.inj H
        go_wp2
        go_ret
        exact ⟨by first | rfl | (simp [errW_none, errW_some] <;> rfl) | (simp [*, errW_none, errW_some] <;> rfl), by repeat (first | (with_reducible first | exact HB.out | apply below_alloc | apply pw_below_drewN | apply below_drew1) | exact HB.out)⟩
      replace c16 := Bool.eq_false_iff.mpr c16
      subst c16
      have H1 : ((lag_Cut.f l0 a2).bind fun bt503 => ((lag_Of.f kj5 bt503.1 l1 a3).bind fun bt510 => ((lag_Of.f kj5 bt503.2.1 l1 a3).bind fun bt514 => ((lag_Of.f kj5 l0 l1 a3).bind fun bt518 => ((lag_Add.f kj5 bt510.1 bt514.1).bind fun bt522 => (if t500 = true then (if bt503.2.2 = 0 then (if bt510.2 = 0 then (if bt514.2 = 0 then (if bt518.2 = 0 then (if bt522.2 = 0 then (if (bt503.1.length : Int) = (l0.length : Int) then (if (bt503.2.1.length : Int) = (l0.length : Int) then ((fringeref16_Same.f kj5 bt522.1 bt518.1).bind fun t526 => (some t526)) else (some false)) else (some false)) else (some false)) else (some false)) else (some false)) else (some false)) else (some false)) else (some false))))))) = some r := by rw [if_neg (show ¬ (false = true) by decide)] at H; exact H
      clear H
      have H := H1
      clear H1
      replace H := Option.bind_eq_some_iff.mp H
      obtain ⟨⟨t503, t504, t505⟩, A170, H⟩ := H
      replace H : ((lag_Of.f kj5 t503 l1 a3).bind fun bt510 => ((lag_Of.f kj5 t504 l1 a3).bind fun bt514 => ((lag_Of.f kj5 l0 l1 a3).bind fun bt518 => ((lag_Add.f kj5 bt510.1 bt514.1).bind fun bt522 => (if t500 = true then (if t505 = 0 then (if bt510.2 = 0 then (if bt514.2 = 0 then (if bt518.2 = 0 then (if bt522.2 = 0 then (if (t503.length : Int) = (l0.length : Int) then (if (t504.length : Int) = (l0.length : Int) then ((fringeref16_Same.f kj5 bt522.1 bt518.1).bind fun t526 => (some t526)) else (some false)) else (some false)) else (some false)) else (some false)) else (some false)) else (some false)) else (some false)) else (some false)))))) = some r := H
      have A17 := Aside0.mk A170
      clear A170
      replace H := Option.bind_eq_some_iff.mp H
      obtain ⟨⟨t510, t511⟩, A180, H⟩ := H
      replace H : ((lag_Of.f kj5 t504 l1 a3).bind fun bt514 => ((lag_Of.f kj5 l0 l1 a3).bind fun bt518 => ((lag_Add.f kj5 t510 bt514.1).bind fun bt522 => (if t500 = true then (if t505 = 0 then (if t511 = 0 then (if bt514.2 = 0 then (if bt518.2 = 0 then (if bt522.2 = 0 then (if (t503.length : Int) = (l0.length : Int) then (if (t504.length : Int) = (l0.length : Int) then ((fringeref16_Same.f kj5 bt522.1 bt518.1).bind fun t526 => (some t526)) else (some false)) else (some false)) else (some false)) else (some false)) else (some false)) else (some false)) else (some false)) else (some false))))) = some r := H
      have A18 := Aside0.mk A180
      clear A180
      replace H := Option.bind_eq_some_iff.mp H
      obtain ⟨⟨t514, t515⟩, A190, H⟩ := H
      replace H : ((lag_Of.f kj5 l0 l1 a3).bind fun bt518 => ((lag_Add.f kj5 t510 t514).bind fun bt522 => (if t500 = true then (if t505 = 0 then (if t511 = 0 then (if t515 = 0 then (if bt518.2 = 0 then (if bt522.2 = 0 then (if (t503.length : Int) = (l0.length : Int) then (if (t504.length : Int) = (l0.length : Int) then ((fringeref16_Same.f kj5 bt522.1 bt518.1).bind fun t526 => (some t526)) else (some false)) else (some false)) else (some false)) else (some false)) else (some false)) else (some false)) else (some false)) else (some false)))) = some r := H
      have A19 := Aside0.mk A190
      clear A190
      replace H := Option.bind_eq_some_iff.mp H
      obtain ⟨⟨t518, t519⟩, A200, H⟩ := H
      replace H : ((lag_Add.f kj5 t510 t514).bind fun bt522 => (if t500 = true then (if t505 = 0 then (if t511 = 0 then (if t515 = 0 then (if t519 = 0 then (if bt522.2 = 0 then (if (t503.length : Int) = (l0.length : Int) then (if (t504.length : Int) = (l0.length : Int) then ((fringeref16_Same.f kj5 bt522.1 t518).bind fun t526 => (some t526)) else (some false)) else (some false)) else (some false)) else (some false)) else (some false)) else (some false)) else (some false)) else (some false))) = some r := H
      have A20 := Aside0.mk A200
      clear A200
      replace H := Option.bind_eq_some_iff.mp H
      obtain ⟨⟨t522, t523⟩, A210, H⟩ := H
      replace H : (if t500 = true then (if t505 = 0 then (if t511 = 0 then (if t515 = 0 then (if t519 = 0 then (if t523 = 0 then (if (t503.length : Int) = (l0.length : Int) then (if (t504.length : Int) = (l0.length : Int) then ((fringeref16_Same.f kj5 t522 t518).bind fun t526 => (some t526)) else (some false)) else (some false)) else (some false)) else (some false)) else (some false)) else (some false)) else (some false)) else (some false)) = some r := H
      have A21 := Aside0.mk A210
      clear A210
      by_cases c22 : t500 = true
      rotate_left
      · replace c22 := Bool.eq_false_iff.mpr c22
        subst c22
        have H1 : (some false) = some r := by rw [if_neg (show ¬ (false = true) by decide)] at H; exact H
        clear H
        have H := H1
        clear H1
        exact absurd ((Option.some.inj H).trans HRT.out) (by decide)

      subst c22
      have H1 : (if t505 = 0 then (if t511 = 0 then (if t515 = 0 then (if t519 = 0 then (if t523 = 0 then (if (t503.length : Int) = (l0.length : Int) then (if (t504.length : Int) = (l0.length : Int) then ((fringeref16_Same.f kj5 t522 t518).bind fun t526 => (some t526)) else (some false)) else (some false)) else (some false)) else (some false)) else (some false)) else (some false)) else (some false)) = some r := by rw [if_pos rfl] at H; exact H
      clear H
      have H := H1
      clear H1
      by_cases c23 : t505 = 0
      rotate_left
      · rw [if_neg c23] at H
        have c23b0 : (t505 == 0) = false := beq_eq_false_iff_ne.mpr c23
        have c23b1 : (t505 != 0) = true := bne_iff_ne.mpr c23
        exact absurd ((Option.some.inj H).trans HRT.out) (by decide)
      rw [if_pos c23] at H
      have c23b0 : (t505 == 0) = true := beq_iff_eq.mpr c23
      have c23b1 : (t505 != 0) = false := bne_eq_false_iff_eq.mpr c23
      clear c23
      by_cases c24 : t511 = 0
      rotate_left
      · rw [if_neg c24] at H
        have c24b0 : (t511 == 0) = false := beq_eq_false_iff_ne.mpr c24
        have c24b1 : (t511 != 0) = true := bne_iff_ne.mpr c24
        exact absurd ((Option.some.inj H).trans HRT.out) (by decide)
      rw [if_pos c24] at H
      have c24b0 : (t511 == 0) = true := beq_iff_eq.mpr c24
      have c24b1 : (t511 != 0) = false := bne_eq_false_iff_eq.mpr c24
      clear c24
      by_cases c25 : t515 = 0
      rotate_left
      · rw [if_neg c25] at H
        have c25b0 : (t515 == 0) = false := beq_eq_false_iff_ne.mpr c25
        have c25b1 : (t515 != 0) = true := bne_iff_ne.mpr c25
        exact absurd ((Option.some.inj H).trans HRT.out) (by decide)
      rw [if_pos c25] at H
      have c25b0 : (t515 == 0) = true := beq_iff_eq.mpr c25
      have c25b1 : (t515 != 0) = false := bne_eq_false_iff_eq.mpr c25
      clear c25
      by_cases c26 : t519 = 0
      rotate_left
      · rw [if_neg c26] at H
        have c26b0 : (t519 == 0) = false := beq_eq_false_iff_ne.mpr c26
        have c26b1 : (t519 != 0) = true := bne_iff_ne.mpr c26
        exact absurd ((Option.some.inj H).trans HRT.out) (by decide)
      rw [if_pos c26] at H
      have c26b0 : (t519 == 0) = true := beq_iff_eq.mpr c26
      have c26b1 : (t519 != 0) = false := bne_eq_false_iff_eq.mpr c26
      clear c26
      by_cases c27 : t523 = 0
      rotate_left
      · rw [if_neg c27] at H
        have c27b0 : (t523 == 0) = false := beq_eq_false_iff_ne.mpr c27
        have c27b1 : (t523 != 0) = true := bne_iff_ne.mpr c27
        exact absurd ((Option.some.inj H).trans HRT.out) (by decide)
      rw [if_pos c27] at H
      have c27b0 : (t523 == 0) = true := beq_iff_eq.mpr c27
      have c27b1 : (t523 != 0) = false := bne_eq_false_iff_eq.mpr c27
      clear c27
      by_cases c28 : (t503.length : Int) = (l0.length : Int)
      rotate_left
      · rw [if_neg c28] at H
        have c28b0 : ((t503.length : Int) == (l0.length : Int)) = false := beq_eq_false_iff_ne.mpr c28
        have c28b1 : ((t503.length : Int) != (l0.length : Int)) = true := bne_iff_ne.mpr c28
        have c28b2 : (t503.length == l0.length) = false := by first | simpa using c28 | (simp at c28 ⊢; omega)
        exact absurd ((Option.some.inj H).trans HRT.out) (by decide)
      rw [if_pos c28] at H
      have c28b0 : ((t503.length : Int) == (l0.length : Int)) = true := beq_iff_eq.mpr c28
      have c28b1 : ((t503.length : Int) != (l0.length : Int)) = false := bne_eq_false_iff_eq.mpr c28
      have c28b2 : (t503.length == l0.length) = true := by first | simpa using c28 | (simp at c28 ⊢; omega)
      clear c28
      by_cases c29 : (t504.length : Int) = (l0.length : Int)
      rotate_left
      · rw [if_neg c29] at H
        have c29b0 : ((t504.length : Int) == (l0.length : Int)) = false := beq_eq_false_iff_ne.mpr c29
        have c29b1 : ((t504.length : Int) != (l0.length : Int)) = true := bne_iff_ne.mpr c29
        have c29b2 : (t504.length == l0.length) = false := by first | simpa using c29 | (simp at c29 ⊢; omega)
        exact absurd ((Option.some.inj H).trans HRT.out) (by decide)
      rw [if_pos c29] at H
      have c29b0 : ((t504.length : Int) == (l0.length : Int)) = true := beq_iff_eq.mpr c29
      have c29b1 : ((t504.length : Int) != (l0.length : Int)) = false := bne_eq_false_iff_eq.mpr c29
      have c29b2 : (t504.length == l0.length) = true := by first | simpa using c29 | (simp at c29 ⊢; omega)
      clear c29
      replace H := Option.bind_eq_some_iff.mp H
      obtain ⟨t526, A300, H⟩ := H
      replace H : (some t526) = some r := H
      have A30 := Aside0.mk A300
      clear A300
      obtain rfl := Option.some.inj H
      go_wp2_with (first | ((with_reducible refine gate_callee (f := 12) rfl ?_); refine goesL_ (some 56) rfl rfl Try.func12 (by kernel_rfl) rfl #[.slice A0 l0.length c0, .int .i64 a2] rfl (by (try simp only [List.map_toArray, List.map_cons, List.map_nil]); first | done | rfl | (simp only [List.length_drop, List.length_take]; rfl)) ?_; (with_reducible refine (lag_Cut.calls _ _ l0 a2 t503 t504 t505 _ ?side1 ?side2 A17.out).mono ?_); (case side1 => repeat (first | exact (Kd.C_below HR0.out HB.out) | (with_reducible refine Kd.C_alloc ?_ _) | (with_reducible refine Kd.C_drewN ?_ _) | (with_reducible refine Kd.C_drew ?_))); (case side2 => exact HC0.out); rintro e w31 ⟨v506, v508, rfl, ho0, ho1, hb⟩; refine ⟨_, rfl, ?_⟩; have n0_ := Aside0.mk (Kd.R_lower ho0 (below_size (by repeat (first | (with_reducible first | exact HB.out | apply below_alloc | apply pw_below_drewN | apply below_drew1) | exact HB.out)))); have n1_ := Aside0.mk (Kd.R_lower ho1 (below_size (by repeat (first | (with_reducible first | exact HB.out | apply below_alloc | apply pw_below_drewN | apply below_drew1) | exact HB.out)))); have n2_ := Aside0.mk (below_step (by repeat (first | (with_reducible first | exact HB.out | apply below_alloc | apply pw_below_drewN | apply below_drew1) | exact HB.out)) hb); clear HB; have HO507 := n0_; have HO509 := n1_; have HB := n2_; clear n0_ n1_ n2_; (try clear hb); (try clear hb2); (try clear hk); (try clear hi); (try clear ho0); (try clear ho1); obtain ⟨Ao32, co32, eo32⟩ := Kd.R_slice HO507.out; subst eo32) | ((with_reducible refine gate_callee (f := 10) rfl ?_); refine goesL_ (some 64) rfl rfl Try.func10 (by kernel_rfl) rfl #[.slice Ao32 t503.length co32, .slice A1 l1.length c1, .int .i64 a3] rfl (by (try simp only [List.map_toArray, List.map_cons, List.map_nil]); first | done | rfl | (simp only [List.length_drop, List.length_take]; rfl)) ?_; (with_reducible refine (lag_Of.calls kj5 _ _ t503 _ _ l1 a3 t510 t511 _ ?side1 ?side2 ?side3 ?side4 A18.out).mono ?_); (case side1 => repeat (first | exact (Kd.R_reads' HO507.out).2.2 | (with_reducible refine Kd.C_alloc ?_ _) | (with_reducible refine Kd.C_drewN ?_ _) | (with_reducible refine Kd.C_drew ?_))); (case side2 => exact (Kd.R_reads' HO507.out).2.1); (case side3 => repeat (first | exact (Kd.C_below HR1.out HB.out) | (with_reducible refine Kd.C_alloc ?_ _) | (with_reducible refine Kd.C_drewN ?_ _) | (with_reducible refine Kd.C_drew ?_))); (case side4 => exact HC1.out); rintro e w33 ⟨v512, rfl, ho0, hb⟩; refine ⟨_, rfl, ?_⟩; have n0_ := Aside0.mk (Kd.R_below (by (with_reducible repeat (first | apply Kd.R_alloc | apply Kd.R_drewN | apply Kd.R_drew)); exact HO507.out) hb); have n1_ := Aside0.mk (Kd.R_below (by (with_reducible repeat (first | apply Kd.R_alloc | apply Kd.R_drewN | apply Kd.R_drew)); exact HO509.out) hb); have n2_ := Aside0.mk (Kd.R_lower ho0 (below_size (by repeat (first | (with_reducible first | exact HB.out | apply below_alloc | apply pw_below_drewN | apply below_drew1) | exact HB.out)))); have n3_ := Aside0.mk (below_step (by repeat (first | (with_reducible first | exact HB.out | apply below_alloc | apply pw_below_drewN | apply below_drew1) | exact HB.out)) hb); clear HO507; clear HO509; clear HB; have HO507 := n0_; have HO509 := n1_; have HO513 := n2_; have HB := n3_; clear n0_ n1_ n2_ n3_; (try clear hb); (try clear hb2); (try clear hk); (try clear hi); (try clear ho0); obtain ⟨Ao34, co34, eo34⟩ := Kd.R_slice HO509.out; subst eo34) | ((with_reducible refine gate_callee (f := 10) rfl ?_); refine goesL_ (some 71) rfl rfl Try.func10 (by kernel_rfl) rfl #[.slice Ao34 t504.length co34, .slice A1 l1.length c1, .int .i64 a3] rfl (by (try simp only [List.map_toArray, List.map_cons, List.map_nil]); first | done | rfl | (simp only [List.length_drop, List.length_take]; rfl)) ?_; (with_reducible refine (lag_Of.calls kj5 _ _ t504 _ _ l1 a3 t514 t515 _ ?side1 ?side2 ?side3 ?side4 A19.out).mono ?_); (case side1 => repeat (first | exact (Kd.R_reads' HO509.out).2.2 | (with_reducible refine Kd.C_alloc ?_ _) | (with_reducible refine Kd.C_drewN ?_ _) | (with_reducible refine Kd.C_drew ?_))); (case side2 => exact (Kd.R_reads' HO509.out).2.1); (case side3 => repeat (first | exact (Kd.C_below HR1.out HB.out) | (with_reducible refine Kd.C_alloc ?_ _) | (with_reducible refine Kd.C_drewN ?_ _) | (with_reducible refine Kd.C_drew ?_))); (case side4 => exact HC1.out); rintro e w35 ⟨v516, rfl, ho0, hb⟩; refine ⟨_, rfl, ?_⟩; have n0_ := Aside0.mk (Kd.R_below (by (with_reducible repeat (first | apply Kd.R_alloc | apply Kd.R_drewN | apply Kd.R_drew)); exact HO507.out) hb); have n1_ := Aside0.mk (Kd.R_below (by (with_reducible repeat (first | apply Kd.R_alloc | apply Kd.R_drewN | apply Kd.R_drew)); exact HO509.out) hb); have n2_ := Aside0.mk (Kd.R_elder' (by (with_reducible repeat (first | apply Kd.R_alloc | apply Kd.R_drewN | apply Kd.R_drew)); exact HO513.out) (Kd.R_base ho0) hb); have n3_ := Aside0.mk (Kd.R_lower (Kd.R_new' ho0 (Kd.R_lt (by (with_reducible repeat (first | apply Kd.R_alloc | apply Kd.R_drewN | apply Kd.R_drew)); exact HO513.out))) (below_size (by repeat (first | (with_reducible first | exact HB.out | apply below_alloc | apply pw_below_drewN | apply below_drew1) | exact HB.out)))); have n4_ := Aside0.mk (below_step (by repeat (first | (with_reducible first | exact HB.out | apply below_alloc | apply pw_below_drewN | apply below_drew1) | exact HB.out)) hb); clear HO507; clear HO509; clear HO513; clear HB; have HO507 := n0_; have HO509 := n1_; have HO513 := n2_; have HO517 := n3_; have HB := n4_; clear n0_ n1_ n2_ n3_ n4_; (try clear hb); (try clear hb2); (try clear hk); (try clear hi); (try clear ho0)) | ((with_reducible refine gate_callee (f := 10) rfl ?_); refine goesL_ (some 78) rfl rfl Try.func10 (by kernel_rfl) rfl #[.slice A0 l0.length c0, .slice A1 l1.length c1, .int .i64 a3] rfl (by (try simp only [List.map_toArray, List.map_cons, List.map_nil]); first | done | rfl | (simp only [List.length_drop, List.length_take]; rfl)) ?_; (with_reducible refine (lag_Of.calls kj5 _ _ l0 _ _ l1 a3 t518 t519 _ ?side1 ?side2 ?side3 ?side4 A20.out).mono ?_); (case side1 => repeat (first | exact (Kd.C_below HR0.out HB.out) | (with_reducible refine Kd.C_alloc ?_ _) | (with_reducible refine Kd.C_drewN ?_ _) | (with_reducible refine Kd.C_drew ?_))); (case side2 => exact HC0.out); (case side3 => repeat (first | exact (Kd.C_below HR1.out HB.out) | (with_reducible refine Kd.C_alloc ?_ _) | (with_reducible refine Kd.C_drewN ?_ _) | (with_reducible refine Kd.C_drew ?_))); (case side4 => exact HC1.out); rintro e w36 ⟨v520, rfl, ho0, hb⟩; refine ⟨_, rfl, ?_⟩; have n0_ := Aside0.mk (Kd.R_below (by (with_reducible repeat (first | apply Kd.R_alloc | apply Kd.R_drewN | apply Kd.R_drew)); exact HO507.out) hb); have n1_ := Aside0.mk (Kd.R_below (by (with_reducible repeat (first | apply Kd.R_alloc | apply Kd.R_drewN | apply Kd.R_drew)); exact HO509.out) hb); have n2_ := Aside0.mk (Kd.R_elder' (by (with_reducible repeat (first | apply Kd.R_alloc | apply Kd.R_drewN | apply Kd.R_drew)); exact HO513.out) (Kd.R_base ho0) hb); have n3_ := Aside0.mk (Kd.R_elder' (by (with_reducible repeat (first | apply Kd.R_alloc | apply Kd.R_drewN | apply Kd.R_drew)); exact HO517.out) (Kd.R_base ho0) hb); have n4_ := Aside0.mk (Kd.R_lower (Kd.R_new' (Kd.R_new' ho0 (Kd.R_lt (by (with_reducible repeat (first | apply Kd.R_alloc | apply Kd.R_drewN | apply Kd.R_drew)); exact HO513.out))) (Kd.R_lt (by (with_reducible repeat (first | apply Kd.R_alloc | apply Kd.R_drewN | apply Kd.R_drew)); exact HO517.out))) (below_size (by repeat (first | (with_reducible first | exact HB.out | apply below_alloc | apply pw_below_drewN | apply below_drew1) | exact HB.out)))); have n5_ := Aside0.mk (below_step (by repeat (first | (with_reducible first | exact HB.out | apply below_alloc | apply pw_below_drewN | apply below_drew1) | exact HB.out)) hb); clear HO507; clear HO509; clear HO513; clear HO517; clear HB; have HO507 := n0_; have HO509 := n1_; have HO513 := n2_; have HO517 := n3_; have HO521 := n4_; have HB := n5_; clear n0_ n1_ n2_ n3_ n4_ n5_; (try clear hb); (try clear hb2); (try clear hk); (try clear hi); (try clear ho0); obtain ⟨Ao37, co37, eo37⟩ := Kd.R_slice HO513.out; subst eo37; obtain ⟨Ao38, co38, eo38⟩ := Kd.R_slice HO517.out; subst eo38) | ((with_reducible refine gate_callee (f := 23) rfl ?_); refine goesL_ (some 84) rfl rfl Try.func23 (by kernel_rfl) rfl #[.slice Ao37 t510.length co37, .slice Ao38 t514.length co38] rfl (by (try simp only [List.map_toArray, List.map_cons, List.map_nil]); first | done | rfl | (simp only [List.length_drop, List.length_take]; rfl)) ?_; (with_reducible refine (lag_Add.calls kj5 _ _ t510 _ _ t514 t522 t523 _ ?side1 ?side2 ?side3 ?side4 A21.out).mono ?_); (case side1 => repeat (first | exact (Kd.R_reads' HO513.out).2.2 | (with_reducible refine Kd.C_alloc ?_ _) | (with_reducible refine Kd.C_drewN ?_ _) | (with_reducible refine Kd.C_drew ?_))); (case side2 => exact (Kd.R_reads' HO513.out).2.1); (case side3 => repeat (first | exact (Kd.R_reads' HO517.out).2.2 | (with_reducible refine Kd.C_alloc ?_ _) | (with_reducible refine Kd.C_drewN ?_ _) | (with_reducible refine Kd.C_drew ?_))); (case side4 => exact (Kd.R_reads' HO517.out).2.1); rintro e w39 ⟨v524, rfl, ho0, hb⟩; refine ⟨_, rfl, ?_⟩; have n0_ := Aside0.mk (Kd.R_below (by (with_reducible repeat (first | apply Kd.R_alloc | apply Kd.R_drewN | apply Kd.R_drew)); exact HO507.out) hb); have n1_ := Aside0.mk (Kd.R_below (by (with_reducible repeat (first | apply Kd.R_alloc | apply Kd.R_drewN | apply Kd.R_drew)); exact HO509.out) hb); have n2_ := Aside0.mk (Kd.R_elder' (by (with_reducible repeat (first | apply Kd.R_alloc | apply Kd.R_drewN | apply Kd.R_drew)); exact HO513.out) (Kd.R_base ho0) hb); have n3_ := Aside0.mk (Kd.R_elder' (by (with_reducible repeat (first | apply Kd.R_alloc | apply Kd.R_drewN | apply Kd.R_drew)); exact HO517.out) (Kd.R_base ho0) hb); have n4_ := Aside0.mk (Kd.R_elder' (by (with_reducible repeat (first | apply Kd.R_alloc | apply Kd.R_drewN | apply Kd.R_drew)); exact HO521.out) (Kd.R_base ho0) hb); have n5_ := Aside0.mk (Kd.R_lower (Kd.R_new' (Kd.R_new' (Kd.R_new' ho0 (Kd.R_lt (by (with_reducible repeat (first | apply Kd.R_alloc | apply Kd.R_drewN | apply Kd.R_drew)); exact HO513.out))) (Kd.R_lt (by (with_reducible repeat (first | apply Kd.R_alloc | apply Kd.R_drewN | apply Kd.R_drew)); exact HO517.out))) (Kd.R_lt (by (with_reducible repeat (first | apply Kd.R_alloc | apply Kd.R_drewN | apply Kd.R_drew)); exact HO521.out))) (below_size (by repeat (first | (with_reducible first | exact HB.out | apply below_alloc | apply pw_below_drewN | apply below_drew1) | exact HB.out)))); have n6_ := Aside0.mk (below_step (by repeat (first | (with_reducible first | exact HB.out | apply below_alloc | apply pw_below_drewN | apply below_drew1) | exact HB.out)) hb); clear HO507; clear HO509; clear HO513; clear HO517; clear HO521; clear HB; have HO507 := n0_; have HO509 := n1_; have HO513 := n2_; have HO517 := n3_; have HO521 := n4_; have HO525 := n5_; have HB := n6_; clear n0_ n1_ n2_ n3_ n4_ n5_ n6_; (try clear hb); (try clear hb2); (try clear hk); (try clear hi); (try clear ho0); obtain ⟨Ao40, co40, eo40⟩ := Kd.R_slice HO525.out; subst eo40; obtain ⟨Ao41, co41, eo41⟩ := Kd.R_slice HO521.out; subst eo41) | (go_at_call 14; (with_reducible refine (fringeref16_Same.calls kj5 _ _ t522 _ _ t518 t526 _ ?side1 ?side2 ?side3 ?side4 A30.out).mono ?_); (case side1 => repeat (first | exact (Kd.R_reads' HO525.out).2.2 | (with_reducible refine Kd.C_alloc ?_ _) | (with_reducible refine Kd.C_drewN ?_ _) | (with_reducible refine Kd.C_drew ?_))); (case side2 => exact (Kd.R_reads' HO525.out).2.1); (case side3 => repeat (first | exact (Kd.R_reads' HO521.out).2.2 | (with_reducible refine Kd.C_alloc ?_ _) | (with_reducible refine Kd.C_drewN ?_ _) | (with_reducible refine Kd.C_drew ?_))); (case side4 => exact (Kd.R_reads' HO521.out).2.1); rintro e w' ⟨rfl, ⟨nd, rfl⟩⟩))
      go_ret
      exact ⟨by first | rfl | (simp [errW_none, errW_some] <;> rfl) | (simp [*, errW_none, errW_some] <;> rfl), by repeat (first | (with_reducible first | exact HB.out | apply below_alloc | apply pw_below_drewN | apply below_drew1) | exact HB.out)⟩
/-- THE ONE PURE STATEMENT of fringelaw16_LagCuts: yours. -/
def fringelaw16_LagCuts.Pure : Prop := ∀ (l0 : List Int) (l1 : List Int) (a2 : Int) (a3 : Int), l0.length ≤ maxLen → l0.length * 8 ≤ 140737488351232 → (∀ x ∈ l0, (Lit.int .i64 x).wf = true) → l1.length ≤ maxLen → l1.length * 8 ≤ 140737488351232 → (∀ x ∈ l1, (Lit.int .i64 x).wf = true) → (Lit.int .i64 a2).wf = true → (Lit.int .i64 a3).wf = true → ∃ k, fringelaw16_LagCuts.f k l0 l1 a2 a3 = some true
theorem fringelaw16_LagCuts.walk (P : fringelaw16_LagCuts.Pure) (a0 : Option Addr) (len0 cap0 : Nat) (z0 : List Int) (a1 : Option Addr) (len1 cap1 : Nat) (z1 : List Int) (a2 : Int) (a3 : Int) (w : World) (w0 : (a0 = none ∧ len0 = 0 ∧ cap0 = 0 ∧ z0 = []) ∨ ∃ x, a0 = some x ∧ len0 ≤ cap0 ∧ cap0 ≤ maxLen ∧ z0.length = cap0 ∧ (∀ i, i < z0.length → w.cell? (x.add i) = some (.int .i64 (z0.getD i 0))) ∧ ∀ n ∈ z0, (Lit.int .i64 n).wf = true) (y0 : len0 * 8 ≤ 140737488351232) (w1 : (a1 = none ∧ len1 = 0 ∧ cap1 = 0 ∧ z1 = []) ∨ ∃ x, a1 = some x ∧ len1 ≤ cap1 ∧ cap1 ≤ maxLen ∧ z1.length = cap1 ∧ (∀ i, i < z1.length → w.cell? (x.add i) = some (.int .i64 (z1.getD i 0))) ∧ ∀ n ∈ z1, (Lit.int .i64 n).wf = true) (y1 : len1 * 8 ≤ 140737488351232) (w2 : (Lit.int .i64 a2).wf = true) (w3 : (Lit.int .i64 a3).wf = true) :
    Calls Try.prog 8 #[.slice a0 len0 cap0, .slice a1 len1 cap1, .int .i64 a2, .int .i64 a3] w fun e w' => e = .returned (.bool true) ∧ Below w.heap.size w w' := by
  obtain ⟨l0, rfl, hr0, hm0, hw0, hc0⟩ := ReadsInt.ofRowC w0
  obtain ⟨l1, rfl, hr1, hm1, hw1, hc1⟩ := ReadsInt.ofRowC w1
  obtain ⟨k, h⟩ := P l0 l1 a2 a3 hm0 y0 hw0 hm1 y1 hw1 w2 w3
  refine (fringelaw16_LagCuts.calls k _ _ l0 _ _ l1 a2 a3 true w (Kd.C_of_reads (d := (0 : Int)) (h1 := fun _ => rfl) hr0) hc0 (Kd.C_of_reads (d := (0 : Int)) (h1 := fun _ => rfl) hr1) hc1 rfl h).mono ?_
  rintro e w' ⟨rfl, hd⟩
  exact ⟨rfl, hd⟩

end Go.Proofs.Ytajdbccapandgaa.PAll
