-- Written by a program of this session, after the kit's print
import Derived.Test.YtajdbccapandgaaPAllx0
import Derived.Test.YtajdbccapandgaaPAllx6
import Derived.Test.YtajdbccapandgaaPAllx12
import Derived.Test.YtajdbccapandgaaPAllx20
import Derived.Test.YtajdbccapandgaaPAllx21
import Derived.Test.YtajdbccapandgaaPAllx22
import Derived.Test.YtajdbccapandgaaPAllx29
namespace Go.Proofs.Ytajdbccapandgaa.PAll
open Go.RowKit Go.Proofs.YtajdbccapandgaaW.PrintWords Go.Proofs.YtajdbccapandgaaW.PrintLast Go.Proofs.YtajdbccapandgaaW.PrintMore
attribute [local go_sem] max2_int min2_int max_two min_two max_three min_three max_four min_four   -- for this text's walks alone
set_option linter.unusedVariables false
set_option linter.unusedSimpArgs false

/-! ### fringelaw16_LagTurns: function 6 -/
mutual
def fringelaw16_LagTurns.j0 : Nat → List Int → List Int → Int → Bool → Bool → Option (Bool)
  | 0, _, _, _, _, _ => none
  | k + 1, x0, x1, x2, x7, x40 => if x40 = true then (some x7) else ((lag_Of.f k x0 x1 x2).bind fun bt317 => ((lag_Of.f k x1 x0 x2).bind fun bt321 => ((lag_Flip.f k bt321.1).bind fun bt325 => ((lag_Of.f k x0 x0 x2).bind fun bt329 => ((lag_Peak.f k bt329.1).bind fun bt333 => (if bt317.2 = 0 then (if bt321.2 = 0 then (if bt325.2 = 0 then (if bt329.2 = 0 then (if (bt317.1.length : Int) = (wrap64 ((wrap64 (2 * x2)) + 1)) then ((fringeref16_Same.f k bt317.1 bt325.1).bind fun t335 => (fringelaw16_LagTurns.j1 k x0 x7 bt333.1 bt333.2 (!t335))) else (fringelaw16_LagTurns.j1 k x0 x7 bt333.1 bt333.2 true)) else (fringelaw16_LagTurns.j1 k x0 x7 bt333.1 bt333.2 true)) else (fringelaw16_LagTurns.j1 k x0 x7 bt333.1 bt333.2 true)) else (fringelaw16_LagTurns.j1 k x0 x7 bt333.1 bt333.2 true)) else (fringelaw16_LagTurns.j1 k x0 x7 bt333.1 bt333.2 true)))))))
def fringelaw16_LagTurns.j1 : Nat → List Int → Bool → Int → Int → Bool → Option (Bool)
  | 0, _, _, _, _, _ => none
  | k + 1, x0, x7, x16, x17, x100 => if x100 = true then (some false) else (fringelaw16_LagTurns.l0 k x0 x7 x16 x17 true 0)
def fringelaw16_LagTurns.l0 : Nat → List Int → Bool → Int → Int → Bool → Int → Option (Bool)
  | 0, _, _, _, _, _, _ => none
  | k + 1, x0, x7, x16, x17, x18, x19 => if x19 < (x0.length : Int) then (if x18 = true then (if 0 ≤ x19 then (fringelaw16_LagTurns.l0 k x0 x7 x16 x17 ((rd x0 x19) == 0) (wrap64 (x19 + 1))) else (none)) else (fringelaw16_LagTurns.l0 k x0 x7 x16 x17 false (wrap64 (x19 + 1)))) else (if x7 = true then (if x18 = true then (if x17 = 18 then (some true) else (some false)) else (if x17 = 0 then (some (x16 == 0)) else (some false))) else (some false))
end
def fringelaw16_LagTurns.f (k : Nat) (l0 : List Int) (l1 : List Int) (a2 : Int) : Option (Bool) := (fringelaw16_alive.f).bind fun t314 => ((fringelaw16_fit.f k l0).bind fun t315 => (if t315 = true then ((fringelaw16_fit.f k l1).bind fun t316 => (if t316 = true then (if a2 < 0 then (fringelaw16_LagTurns.j0 k l0 l1 a2 t314 true) else (if a2 > 255 then (fringelaw16_LagTurns.j0 k l0 l1 a2 t314 true) else (fringelaw16_LagTurns.j0 k l0 l1 a2 t314 (!t314)))) else (fringelaw16_LagTurns.j0 k l0 l1 a2 t314 true))) else (fringelaw16_LagTurns.j0 k l0 l1 a2 t314 true)))
theorem fringelaw16_LagTurns.mono_l : ∀ k, (∀ y0 y1 y2 y3 y4, LeO (fringelaw16_LagTurns.j0 k y0 y1 y2 y3 y4) (fringelaw16_LagTurns.j0 (k + 1) y0 y1 y2 y3 y4)) ∧ (∀ y0 y1 y2 y3 y4, LeO (fringelaw16_LagTurns.j1 k y0 y1 y2 y3 y4) (fringelaw16_LagTurns.j1 (k + 1) y0 y1 y2 y3 y4)) ∧ (∀ y0 y1 y2 y3 y4 y5, LeO (fringelaw16_LagTurns.l0 k y0 y1 y2 y3 y4 y5) (fringelaw16_LagTurns.l0 (k + 1) y0 y1 y2 y3 y4 y5))
  | 0 => ⟨fun _ _ _ _ _ r h => by simp [fringelaw16_LagTurns.j0] at h, fun _ _ _ _ _ r h => by simp [fringelaw16_LagTurns.j1] at h, fun _ _ _ _ _ _ r h => by simp [fringelaw16_LagTurns.l0] at h⟩
  | k + 1 => by
    obtain ⟨ih0, ih1, ih2⟩ := fringelaw16_LagTurns.mono_l k
    refine ⟨?_, ?_, ?_⟩
    · intro y0 y1 y2 y3 y4
      unfold fringelaw16_LagTurns.j0
      repeat' first
      | (with_reducible exact ih0 _ _ _ _ _)
      | (with_reducible exact ih1 _ _ _ _ _)
      | (with_reducible exact ih2 _ _ _ _ _ _)
      | (with_reducible exact fringelaw16_fit.mono _ _)
      | (with_reducible exact fringeref16_Same.mono _ _ _)
      | (with_reducible exact lag_Flip.mono _ _)
      | (with_reducible exact lag_Of.mono _ _ _ _)
      | (with_reducible exact lag_Peak.mono _ _)
      | (with_reducible exact LeO.refl _)
      | (with_reducible exact LeO.none _)
      | (with_reducible refine LeO.ite ?_ ?_)
      | (with_reducible refine LeO.bind ?_ (fun _ => ?_))
      | exact ih0 _ _ _ _ _
      | exact ih1 _ _ _ _ _
      | exact ih2 _ _ _ _ _ _
      | exact fringelaw16_fit.mono _ _
      | exact fringeref16_Same.mono _ _ _
      | exact lag_Flip.mono _ _
      | exact lag_Of.mono _ _ _ _
      | exact lag_Peak.mono _ _
      | exact LeO.none _
      | refine LeO.ite ?_ ?_
      | refine LeO.bind ?_ (fun _ => ?_)
    · intro y0 y1 y2 y3 y4
      unfold fringelaw16_LagTurns.j1
      repeat' first
      | (with_reducible exact ih0 _ _ _ _ _)
      | (with_reducible exact ih1 _ _ _ _ _)
      | (with_reducible exact ih2 _ _ _ _ _ _)
      | (with_reducible exact fringelaw16_fit.mono _ _)
      | (with_reducible exact fringeref16_Same.mono _ _ _)
      | (with_reducible exact lag_Flip.mono _ _)
      | (with_reducible exact lag_Of.mono _ _ _ _)
      | (with_reducible exact lag_Peak.mono _ _)
      | (with_reducible exact LeO.refl _)
      | (with_reducible exact LeO.none _)
      | (with_reducible refine LeO.ite ?_ ?_)
      | (with_reducible refine LeO.bind ?_ (fun _ => ?_))
      | exact ih0 _ _ _ _ _
      | exact ih1 _ _ _ _ _
      | exact ih2 _ _ _ _ _ _
      | exact fringelaw16_fit.mono _ _
      | exact fringeref16_Same.mono _ _ _
      | exact lag_Flip.mono _ _
      | exact lag_Of.mono _ _ _ _
      | exact lag_Peak.mono _ _
      | exact LeO.none _
      | refine LeO.ite ?_ ?_
      | refine LeO.bind ?_ (fun _ => ?_)
    · intro y0 y1 y2 y3 y4 y5
      unfold fringelaw16_LagTurns.l0
      repeat' first
      | (with_reducible exact ih0 _ _ _ _ _)
      | (with_reducible exact ih1 _ _ _ _ _)
      | (with_reducible exact ih2 _ _ _ _ _ _)
      | (with_reducible exact fringelaw16_fit.mono _ _)
      | (with_reducible exact fringeref16_Same.mono _ _ _)
      | (with_reducible exact lag_Flip.mono _ _)
      | (with_reducible exact lag_Of.mono _ _ _ _)
      | (with_reducible exact lag_Peak.mono _ _)
      | (with_reducible exact LeO.refl _)
      | (with_reducible exact LeO.none _)
      | (with_reducible refine LeO.ite ?_ ?_)
      | (with_reducible refine LeO.bind ?_ (fun _ => ?_))
      | exact ih0 _ _ _ _ _
      | exact ih1 _ _ _ _ _
      | exact ih2 _ _ _ _ _ _
      | exact fringelaw16_fit.mono _ _
      | exact fringeref16_Same.mono _ _ _
      | exact lag_Flip.mono _ _
      | exact lag_Of.mono _ _ _ _
      | exact lag_Peak.mono _ _
      | exact LeO.none _
      | refine LeO.ite ?_ ?_
      | refine LeO.bind ?_ (fun _ => ?_)
theorem fringelaw16_LagTurns.mono : ∀ a0 a1 a2 k, LeO (fringelaw16_LagTurns.f k a0 a1 a2) (fringelaw16_LagTurns.f (k + 1) a0 a1 a2) := by
  intro a0 a1 a2 k
  obtain ⟨ih0, ih1, ih2⟩ := fringelaw16_LagTurns.mono_l k
  unfold fringelaw16_LagTurns.f
  repeat' first
      | (with_reducible exact ih0 _ _ _ _ _)
      | (with_reducible exact ih1 _ _ _ _ _)
      | (with_reducible exact ih2 _ _ _ _ _ _)
      | (with_reducible exact fringelaw16_fit.mono _ _)
      | (with_reducible exact fringeref16_Same.mono _ _ _)
      | (with_reducible exact lag_Flip.mono _ _)
      | (with_reducible exact lag_Of.mono _ _ _ _)
      | (with_reducible exact lag_Peak.mono _ _)
      | (with_reducible exact LeO.refl _)
      | (with_reducible exact LeO.none _)
      | (with_reducible refine LeO.ite ?_ ?_)
      | (with_reducible refine LeO.bind ?_ (fun _ => ?_))
      | exact ih0 _ _ _ _ _
      | exact ih1 _ _ _ _ _
      | exact ih2 _ _ _ _ _ _
      | exact fringelaw16_fit.mono _ _
      | exact fringeref16_Same.mono _ _ _
      | exact lag_Flip.mono _ _
      | exact lag_Of.mono _ _ _ _
      | exact lag_Peak.mono _ _
      | exact LeO.none _
      | refine LeO.ite ?_ ?_
      | refine LeO.bind ?_ (fun _ => ?_)
set_option maxHeartbeats 8000000 in
set_option maxRecDepth 100000 in
theorem fringelaw16_LagTurns.calls (k : Nat) (A0 : Option Addr) (c0 : Nat) (l0 : List Int) (A1 : Option Addr) (c1 : Nat) (l1 : List Int) (a2 : Int) (r : Bool) (w : World) (hr0 : Kd.C (Kd.int .i64) w A0 l0.length l0) (hc0 : l0.length ≤ c0) (hr1 : Kd.C (Kd.int .i64) w A1 l1.length l1) (hc1 : l1.length ≤ c1) (hrt : r = true) (h : fringelaw16_LagTurns.f k l0 l1 a2 = some r) :
    Calls Try.prog 6 #[.slice A0 l0.length c0, .slice A1 l1.length c1, .int .i64 a2] w fun e w' => e = .returned (.bool r) ∧ Below w.heap.size w w' := by
  have HR0 := Aside0.mk hr0
  have HC0 := Aside0.mk hc0
  clear hr0 hc0
  have HR1 := Aside0.mk hr1
  have HC1 := Aside0.mk hc1
  clear hr1 hc1
  have HB := Aside0.mk (Below.refl w.heap.size w)
  have HRT := Aside0.mk hrt
  clear hrt
  have H : ((fringelaw16_alive.f).bind fun t314 => ((fringelaw16_fit.f k l0).bind fun t315 => (if t315 = true then ((fringelaw16_fit.f k l1).bind fun t316 => (if t316 = true then (if a2 < 0 then (fringelaw16_LagTurns.j0 k l0 l1 a2 t314 true) else (if a2 > 255 then (fringelaw16_LagTurns.j0 k l0 l1 a2 t314 true) else (fringelaw16_LagTurns.j0 k l0 l1 a2 t314 (!t314)))) else (fringelaw16_LagTurns.j0 k l0 l1 a2 t314 true))) else (fringelaw16_LagTurns.j0 k l0 l1 a2 t314 true)))) = some r := h
  clear h
  replace H := Option.bind_eq_some_iff.mp H
  obtain ⟨t314, A40, H⟩ := H
  replace H : ((fringelaw16_fit.f k l0).bind fun t315 => (if t315 = true then ((fringelaw16_fit.f k l1).bind fun t316 => (if t316 = true then (if a2 < 0 then (fringelaw16_LagTurns.j0 k l0 l1 a2 t314 true) else (if a2 > 255 then (fringelaw16_LagTurns.j0 k l0 l1 a2 t314 true) else (fringelaw16_LagTurns.j0 k l0 l1 a2 t314 (!t314)))) else (fringelaw16_LagTurns.j0 k l0 l1 a2 t314 true))) else (fringelaw16_LagTurns.j0 k l0 l1 a2 t314 true))) = some r := H
  have A4 := Aside0.mk A40
  clear A40
  have HC5 := Aside0.mk H
  clear H
  go_enter Try.func6, Try.ntmps6
  go_upto_region 2 with (first | ((with_reducible refine gate_callee (f := 16) rfl ?_); refine goesL_ (some 20) rfl rfl Try.func16 (by kernel_rfl) rfl #[] rfl (by (try simp only [List.map_toArray, List.map_cons, List.map_nil]); first | done | rfl | (simp only [List.length_drop, List.length_take]; rfl)) ?_; (with_reducible refine (fringelaw16_alive.calls  t314 _ A4.out).mono ?_); rintro e w6 ⟨rfl, hb⟩; refine ⟨_, rfl, ?_⟩; have n0_ := Aside0.mk (below_step (by repeat (first | (with_reducible first | exact HB.out | apply below_alloc | apply pw_below_drewN | apply below_drew1) | exact HB.out)) hb); clear HB; have HB := n0_; clear n0_; (try clear hb); (try clear hb2); (try clear hk); (try clear hi)))
  (try simp only [Act.put, List.setIfInBounds_toArray, List.set_cons_zero, List.set_cons_succ])
  go_cut [40] (fun v40 wc => ∃ (kq : Nat) (x40_4 : Bool), v40 = .bool x40_4 ∧ Aside0 (fringelaw16_LagTurns.j0 kq l0 l1 a2 t314 x40_4 = some r) ∧ Aside0 (kq ≤ k) ∧ Aside0 (Below w.heap.size w wc))
  case first =>
    have H := HC5.out
    clear HC5
    replace H := Option.bind_eq_some_iff.mp H
    obtain ⟨t315, A70, H⟩ := H
    replace H : (if t315 = true then ((fringelaw16_fit.f k l1).bind fun t316 => (if t316 = true then (if a2 < 0 then (fringelaw16_LagTurns.j0 k l0 l1 a2 t314 true) else (if a2 > 255 then (fringelaw16_LagTurns.j0 k l0 l1 a2 t314 true) else (fringelaw16_LagTurns.j0 k l0 l1 a2 t314 (!t314)))) else (fringelaw16_LagTurns.j0 k l0 l1 a2 t314 true))) else (fringelaw16_LagTurns.j0 k l0 l1 a2 t314 true)) = some r := H
    have A7 := Aside0.mk A70
    clear A70
    by_cases c8 : t315 = true
    rotate_left
    · replace c8 := Bool.eq_false_iff.mpr c8
      subst c8
      have H1 : (fringelaw16_LagTurns.j0 k l0 l1 a2 t314 true) = some r := by rw [if_neg (show ¬ (false = true) by decide)] at H; exact H
      clear H
      have H := H1
      clear H1
      have H' := Aside0.mk H
      clear H
      go_wp2_with (first | ((with_reducible refine gate_callee (f := 17) rfl ?_); refine goesL_ (some 22) rfl rfl Try.func17 (by kernel_rfl) rfl #[.slice A0 l0.length c0] rfl (by (try simp only [List.map_toArray, List.map_cons, List.map_nil]); first | done | rfl | (simp only [List.length_drop, List.length_take]; rfl)) ?_; (with_reducible refine (fringelaw16_fit.calls k _ _ l0 false _ ?side1 ?side2 A7.out).mono ?_); (case side1 => repeat (first | exact (Kd.C_below HR0.out HB.out) | (with_reducible refine Kd.C_alloc ?_ _) | (with_reducible refine Kd.C_drewN ?_ _) | (with_reducible refine Kd.C_drew ?_))); (case side2 => exact HC0.out); rintro e w' ⟨rfl, ⟨nd, rfl⟩⟩; refine ⟨_, rfl, ?_⟩))
      go_meet
      case rel => exact ⟨_, (true), (by first | rfl | (simp; done) | (simp [*]; done)), H', ⟨by first | omega | exact Nat.le_refl _⟩, ⟨by repeat (first | (with_reducible first | exact HB.out | apply below_alloc | apply pw_below_drewN | apply below_drew1) | exact HB.out)⟩⟩
    subst c8
    have H1 : ((fringelaw16_fit.f k l1).bind fun t316 => (if t316 = true then (if a2 < 0 then (fringelaw16_LagTurns.j0 k l0 l1 a2 t314 true) else (if a2 > 255 then (fringelaw16_LagTurns.j0 k l0 l1 a2 t314 true) else (fringelaw16_LagTurns.j0 k l0 l1 a2 t314 (!t314)))) else (fringelaw16_LagTurns.j0 k l0 l1 a2 t314 true))) = some r := by rw [if_pos rfl] at H; exact H
    clear H
    have H := H1
    clear H1
    replace H := Option.bind_eq_some_iff.mp H
    obtain ⟨t316, A90, H⟩ := H
    replace H : (if t316 = true then (if a2 < 0 then (fringelaw16_LagTurns.j0 k l0 l1 a2 t314 true) else (if a2 > 255 then (fringelaw16_LagTurns.j0 k l0 l1 a2 t314 true) else (fringelaw16_LagTurns.j0 k l0 l1 a2 t314 (!t314)))) else (fringelaw16_LagTurns.j0 k l0 l1 a2 t314 true)) = some r := H
    have A9 := Aside0.mk A90
    clear A90
    by_cases c10 : t316 = true
    rotate_left
    · replace c10 := Bool.eq_false_iff.mpr c10
      subst c10
      have H1 : (fringelaw16_LagTurns.j0 k l0 l1 a2 t314 true) = some r := by rw [if_neg (show ¬ (false = true) by decide)] at H; exact H
      clear H
      have H := H1
      clear H1
      have H' := Aside0.mk H
      clear H
      go_wp2_with (first | ((with_reducible refine gate_callee (f := 17) rfl ?_); refine goesL_ (some 22) rfl rfl Try.func17 (by kernel_rfl) rfl #[.slice A0 l0.length c0] rfl (by (try simp only [List.map_toArray, List.map_cons, List.map_nil]); first | done | rfl | (simp only [List.length_drop, List.length_take]; rfl)) ?_; (with_reducible refine (fringelaw16_fit.calls k _ _ l0 true _ ?side1 ?side2 A7.out).mono ?_); (case side1 => repeat (first | exact (Kd.C_below HR0.out HB.out) | (with_reducible refine Kd.C_alloc ?_ _) | (with_reducible refine Kd.C_drewN ?_ _) | (with_reducible refine Kd.C_drew ?_))); (case side2 => exact HC0.out); rintro e w' ⟨rfl, ⟨nd, rfl⟩⟩; refine ⟨_, rfl, ?_⟩) | (go_at_call 17; (with_reducible refine (fringelaw16_fit.calls k _ _ l1 false _ ?side1 ?side2 A9.out).mono ?_); (case side1 => repeat (first | exact (Kd.C_below HR1.out (by repeat (first | (with_reducible first | exact HB.out | apply below_alloc | apply pw_below_drewN | apply below_drew1) | exact HB.out))) | (with_reducible refine Kd.C_alloc ?_ _) | (with_reducible refine Kd.C_drewN ?_ _) | (with_reducible refine Kd.C_drew ?_))); (case side2 => exact HC1.out); rintro e w' ⟨rfl, ⟨nd, rfl⟩⟩))
      go_meet
      case rel => exact ⟨_, (true), (by first | rfl | (simp; done) | (simp [*]; done)), H', ⟨by first | omega | exact Nat.le_refl _⟩, ⟨by repeat (first | (with_reducible first | exact HB.out | apply below_alloc | apply pw_below_drewN | apply below_drew1) | exact HB.out)⟩⟩
    subst c10
    have H1 : (if a2 < 0 then (fringelaw16_LagTurns.j0 k l0 l1 a2 t314 true) else (if a2 > 255 then (fringelaw16_LagTurns.j0 k l0 l1 a2 t314 true) else (fringelaw16_LagTurns.j0 k l0 l1 a2 t314 (!t314)))) = some r := by rw [if_pos rfl] at H; exact H
    clear H
    have H := H1
    clear H1
    by_cases c11 : a2 < 0
    · rw [if_pos c11] at H
      have c11b0 : decide (a2 < 0) = true := decide_eq_true c11
      clear c11
      (first | rw [c11b0] | (simp only [i64_w, i32_w]; rw [c11b0]) | skip)
      have H' := Aside0.mk H
      clear H
      go_wp2_with (first | ((with_reducible refine gate_callee (f := 17) rfl ?_); refine goesL_ (some 22) rfl rfl Try.func17 (by kernel_rfl) rfl #[.slice A0 l0.length c0] rfl (by (try simp only [List.map_toArray, List.map_cons, List.map_nil]); first | done | rfl | (simp only [List.length_drop, List.length_take]; rfl)) ?_; (with_reducible refine (fringelaw16_fit.calls k _ _ l0 true _ ?side1 ?side2 A7.out).mono ?_); (case side1 => repeat (first | exact (Kd.C_below HR0.out HB.out) | (with_reducible refine Kd.C_alloc ?_ _) | (with_reducible refine Kd.C_drewN ?_ _) | (with_reducible refine Kd.C_drew ?_))); (case side2 => exact HC0.out); rintro e w' ⟨rfl, ⟨nd, rfl⟩⟩; refine ⟨_, rfl, ?_⟩) | (go_at_call 17; (with_reducible refine (fringelaw16_fit.calls k _ _ l1 true _ ?side1 ?side2 A9.out).mono ?_); (case side1 => repeat (first | exact (Kd.C_below HR1.out (by repeat (first | (with_reducible first | exact HB.out | apply below_alloc | apply pw_below_drewN | apply below_drew1) | exact HB.out))) | (with_reducible refine Kd.C_alloc ?_ _) | (with_reducible refine Kd.C_drewN ?_ _) | (with_reducible refine Kd.C_drew ?_))); (case side2 => exact HC1.out); rintro e w' ⟨rfl, ⟨nd, rfl⟩⟩))
      go_meet
      case rel => exact ⟨_, (true), (by first | rfl | (simp; done) | (simp [*]; done)), H', ⟨by first | omega | exact Nat.le_refl _⟩, ⟨by repeat (first | (with_reducible first | exact HB.out | apply below_alloc | apply pw_below_drewN | apply below_drew1) | exact HB.out)⟩⟩
    rw [if_neg c11] at H
    have c11b0 : decide (a2 < 0) = false := decide_eq_false c11
    clear c11
    (first | rw [c11b0] | (simp only [i64_w, i32_w]; rw [c11b0]) | skip)
    by_cases c12 : a2 > 255
    · rw [if_pos c12] at H
      have c12b0 : decide (255 < a2) = true := decide_eq_true c12
      clear c12
      have H' := Aside0.mk H
      clear H
      go_wp2_with (first | ((with_reducible refine gate_callee (f := 17) rfl ?_); refine goesL_ (some 22) rfl rfl Try.func17 (by kernel_rfl) rfl #[.slice A0 l0.length c0] rfl (by (try simp only [List.map_toArray, List.map_cons, List.map_nil]); first | done | rfl | (simp only [List.length_drop, List.length_take]; rfl)) ?_; (with_reducible refine (fringelaw16_fit.calls k _ _ l0 true _ ?side1 ?side2 A7.out).mono ?_); (case side1 => repeat (first | exact (Kd.C_below HR0.out HB.out) | (with_reducible refine Kd.C_alloc ?_ _) | (with_reducible refine Kd.C_drewN ?_ _) | (with_reducible refine Kd.C_drew ?_))); (case side2 => exact HC0.out); rintro e w' ⟨rfl, ⟨nd, rfl⟩⟩; refine ⟨_, rfl, ?_⟩) | (go_at_call 17; (with_reducible refine (fringelaw16_fit.calls k _ _ l1 true _ ?side1 ?side2 A9.out).mono ?_); (case side1 => repeat (first | exact (Kd.C_below HR1.out (by repeat (first | (with_reducible first | exact HB.out | apply below_alloc | apply pw_below_drewN | apply below_drew1) | exact HB.out))) | (with_reducible refine Kd.C_alloc ?_ _) | (with_reducible refine Kd.C_drewN ?_ _) | (with_reducible refine Kd.C_drew ?_))); (case side2 => exact HC1.out); rintro e w' ⟨rfl, ⟨nd, rfl⟩⟩))
      go_meet
      case rel => exact ⟨_, (true), (by first | rfl | (simp; done) | (simp [*]; done)), H', ⟨by first | omega | exact Nat.le_refl _⟩, ⟨by repeat (first | (with_reducible first | exact HB.out | apply below_alloc | apply pw_below_drewN | apply below_drew1) | exact HB.out)⟩⟩
    rw [if_neg c12] at H
    have c12b0 : decide (255 < a2) = false := decide_eq_false c12
    clear c12
    have H' := Aside0.mk H
    clear H
    go_wp2_with (first | ((with_reducible refine gate_callee (f := 17) rfl ?_); refine goesL_ (some 22) rfl rfl Try.func17 (by kernel_rfl) rfl #[.slice A0 l0.length c0] rfl (by (try simp only [List.map_toArray, List.map_cons, List.map_nil]); first | done | rfl | (simp only [List.length_drop, List.length_take]; rfl)) ?_; (with_reducible refine (fringelaw16_fit.calls k _ _ l0 true _ ?side1 ?side2 A7.out).mono ?_); (case side1 => repeat (first | exact (Kd.C_below HR0.out HB.out) | (with_reducible refine Kd.C_alloc ?_ _) | (with_reducible refine Kd.C_drewN ?_ _) | (with_reducible refine Kd.C_drew ?_))); (case side2 => exact HC0.out); rintro e w' ⟨rfl, ⟨nd, rfl⟩⟩; refine ⟨_, rfl, ?_⟩) | (go_at_call 17; (with_reducible refine (fringelaw16_fit.calls k _ _ l1 true _ ?side1 ?side2 A9.out).mono ?_); (case side1 => repeat (first | exact (Kd.C_below HR1.out (by repeat (first | (with_reducible first | exact HB.out | apply below_alloc | apply pw_below_drewN | apply below_drew1) | exact HB.out))) | (with_reducible refine Kd.C_alloc ?_ _) | (with_reducible refine Kd.C_drewN ?_ _) | (with_reducible refine Kd.C_drew ?_))); (case side2 => exact HC1.out); rintro e w' ⟨rfl, ⟨nd, rfl⟩⟩))
    go_meet
    case rel => exact ⟨_, (!t314), (by first | rfl | (simp; done) | (simp [*]; done)), H', ⟨by first | omega | exact Nat.le_refl _⟩, ⟨by repeat (first | (with_reducible first | exact HB.out | apply below_alloc | apply pw_below_drewN | apply below_drew1) | exact HB.out)⟩⟩
  case rest =>
    clear HC5
    try clear c1
    try clear p2
    try clear c6
    try clear c8
    try clear c10
    try clear c11
    try clear c11b0
    try clear c12
    try clear c12b0
    obtain ⟨kq, x40_4, rfl, HA, HJ4, HB⟩ := hcut
    cases kq with
    | zero => exact absurd HA.out (by simp [fringelaw16_LagTurns.j0])
    | succ kj4 =>
      have H := HA.out
      clear HA
      simp only [fringelaw16_LagTurns.j0] at H
      by_cases c13 : x40_4 = true
      · subst c13
        have H1 : (some t314) = some r := by rw [if_pos rfl] at H; exact H
        clear H
        have H := H1
        clear H1
        obtain rfl := Option.some.inj H
        go_wp2
        go_ret
        exact ⟨by first | rfl | (simp [errW_none, errW_some] <;> rfl) | (simp [*, errW_none, errW_some] <;> rfl), by repeat (first | (with_reducible first | exact HB.out | apply below_alloc | apply pw_below_drewN | apply below_drew1) | exact HB.out)⟩
      replace c13 := Bool.eq_false_iff.mpr c13
      subst c13
      have H1 : ((lag_Of.f kj4 l0 l1 a2).bind fun bt317 => ((lag_Of.f kj4 l1 l0 a2).bind fun bt321 => ((lag_Flip.f kj4 bt321.1).bind fun bt325 => ((lag_Of.f kj4 l0 l0 a2).bind fun bt329 => ((lag_Peak.f kj4 bt329.1).bind fun bt333 => (if bt317.2 = 0 then (if bt321.2 = 0 then (if bt325.2 = 0 then (if bt329.2 = 0 then (if (bt317.1.length : Int) = (wrap64 ((wrap64 (2 * a2)) + 1)) then ((fringeref16_Same.f kj4 bt317.1 bt325.1).bind fun t335 => (fringelaw16_LagTurns.j1 kj4 l0 t314 bt333.1 bt333.2 (!t335))) else (fringelaw16_LagTurns.j1 kj4 l0 t314 bt333.1 bt333.2 true)) else (fringelaw16_LagTurns.j1 kj4 l0 t314 bt333.1 bt333.2 true)) else (fringelaw16_LagTurns.j1 kj4 l0 t314 bt333.1 bt333.2 true)) else (fringelaw16_LagTurns.j1 kj4 l0 t314 bt333.1 bt333.2 true)) else (fringelaw16_LagTurns.j1 kj4 l0 t314 bt333.1 bt333.2 true))))))) = some r := by rw [if_neg (show ¬ (false = true) by decide)] at H; exact H
      clear H
      have H := H1
      clear H1
      replace H := Option.bind_eq_some_iff.mp H
      obtain ⟨⟨t317, t318⟩, A140, H⟩ := H
      replace H : ((lag_Of.f kj4 l1 l0 a2).bind fun bt321 => ((lag_Flip.f kj4 bt321.1).bind fun bt325 => ((lag_Of.f kj4 l0 l0 a2).bind fun bt329 => ((lag_Peak.f kj4 bt329.1).bind fun bt333 => (if t318 = 0 then (if bt321.2 = 0 then (if bt325.2 = 0 then (if bt329.2 = 0 then (if (t317.length : Int) = (wrap64 ((wrap64 (2 * a2)) + 1)) then ((fringeref16_Same.f kj4 t317 bt325.1).bind fun t335 => (fringelaw16_LagTurns.j1 kj4 l0 t314 bt333.1 bt333.2 (!t335))) else (fringelaw16_LagTurns.j1 kj4 l0 t314 bt333.1 bt333.2 true)) else (fringelaw16_LagTurns.j1 kj4 l0 t314 bt333.1 bt333.2 true)) else (fringelaw16_LagTurns.j1 kj4 l0 t314 bt333.1 bt333.2 true)) else (fringelaw16_LagTurns.j1 kj4 l0 t314 bt333.1 bt333.2 true)) else (fringelaw16_LagTurns.j1 kj4 l0 t314 bt333.1 bt333.2 true)))))) = some r := H
      have A14 := Aside0.mk A140
      clear A140
      replace H := Option.bind_eq_some_iff.mp H
      obtain ⟨⟨t321, t322⟩, A150, H⟩ := H
      replace H : ((lag_Flip.f kj4 t321).bind fun bt325 => ((lag_Of.f kj4 l0 l0 a2).bind fun bt329 => ((lag_Peak.f kj4 bt329.1).bind fun bt333 => (if t318 = 0 then (if t322 = 0 then (if bt325.2 = 0 then (if bt329.2 = 0 then (if (t317.length : Int) = (wrap64 ((wrap64 (2 * a2)) + 1)) then ((fringeref16_Same.f kj4 t317 bt325.1).bind fun t335 => (fringelaw16_LagTurns.j1 kj4 l0 t314 bt333.1 bt333.2 (!t335))) else (fringelaw16_LagTurns.j1 kj4 l0 t314 bt333.1 bt333.2 true)) else (fringelaw16_LagTurns.j1 kj4 l0 t314 bt333.1 bt333.2 true)) else (fringelaw16_LagTurns.j1 kj4 l0 t314 bt333.1 bt333.2 true)) else (fringelaw16_LagTurns.j1 kj4 l0 t314 bt333.1 bt333.2 true)) else (fringelaw16_LagTurns.j1 kj4 l0 t314 bt333.1 bt333.2 true))))) = some r := H
      have A15 := Aside0.mk A150
      clear A150
      replace H := Option.bind_eq_some_iff.mp H
      obtain ⟨⟨t325, t326⟩, A160, H⟩ := H
      replace H : ((lag_Of.f kj4 l0 l0 a2).bind fun bt329 => ((lag_Peak.f kj4 bt329.1).bind fun bt333 => (if t318 = 0 then (if t322 = 0 then (if t326 = 0 then (if bt329.2 = 0 then (if (t317.length : Int) = (wrap64 ((wrap64 (2 * a2)) + 1)) then ((fringeref16_Same.f kj4 t317 t325).bind fun t335 => (fringelaw16_LagTurns.j1 kj4 l0 t314 bt333.1 bt333.2 (!t335))) else (fringelaw16_LagTurns.j1 kj4 l0 t314 bt333.1 bt333.2 true)) else (fringelaw16_LagTurns.j1 kj4 l0 t314 bt333.1 bt333.2 true)) else (fringelaw16_LagTurns.j1 kj4 l0 t314 bt333.1 bt333.2 true)) else (fringelaw16_LagTurns.j1 kj4 l0 t314 bt333.1 bt333.2 true)) else (fringelaw16_LagTurns.j1 kj4 l0 t314 bt333.1 bt333.2 true)))) = some r := H
      have A16 := Aside0.mk A160
      clear A160
      replace H := Option.bind_eq_some_iff.mp H
      obtain ⟨⟨t329, t330⟩, A170, H⟩ := H
      replace H : ((lag_Peak.f kj4 t329).bind fun bt333 => (if t318 = 0 then (if t322 = 0 then (if t326 = 0 then (if t330 = 0 then (if (t317.length : Int) = (wrap64 ((wrap64 (2 * a2)) + 1)) then ((fringeref16_Same.f kj4 t317 t325).bind fun t335 => (fringelaw16_LagTurns.j1 kj4 l0 t314 bt333.1 bt333.2 (!t335))) else (fringelaw16_LagTurns.j1 kj4 l0 t314 bt333.1 bt333.2 true)) else (fringelaw16_LagTurns.j1 kj4 l0 t314 bt333.1 bt333.2 true)) else (fringelaw16_LagTurns.j1 kj4 l0 t314 bt333.1 bt333.2 true)) else (fringelaw16_LagTurns.j1 kj4 l0 t314 bt333.1 bt333.2 true)) else (fringelaw16_LagTurns.j1 kj4 l0 t314 bt333.1 bt333.2 true))) = some r := H
      have A17 := Aside0.mk A170
      clear A170
      replace H := Option.bind_eq_some_iff.mp H
      obtain ⟨⟨t333, t334⟩, A180, H⟩ := H
      replace H : (if t318 = 0 then (if t322 = 0 then (if t326 = 0 then (if t330 = 0 then (if (t317.length : Int) = (wrap64 ((wrap64 (2 * a2)) + 1)) then ((fringeref16_Same.f kj4 t317 t325).bind fun t335 => (fringelaw16_LagTurns.j1 kj4 l0 t314 t333 t334 (!t335))) else (fringelaw16_LagTurns.j1 kj4 l0 t314 t333 t334 true)) else (fringelaw16_LagTurns.j1 kj4 l0 t314 t333 t334 true)) else (fringelaw16_LagTurns.j1 kj4 l0 t314 t333 t334 true)) else (fringelaw16_LagTurns.j1 kj4 l0 t314 t333 t334 true)) else (fringelaw16_LagTurns.j1 kj4 l0 t314 t333 t334 true)) = some r := H
      have A18 := Aside0.mk A180
      clear A180
      have HC19 := Aside0.mk H
      clear H
      go_upto_region 9 with (first | ((with_reducible refine gate_callee (f := 10) rfl ?_); refine goesL_ (some 46) rfl rfl Try.func10 (by kernel_rfl) rfl #[.slice A0 l0.length c0, .slice A1 l1.length c1, .int .i64 a2] rfl (by (try simp only [List.map_toArray, List.map_cons, List.map_nil]); first | done | rfl | (simp only [List.length_drop, List.length_take]; rfl)) ?_; (with_reducible refine (lag_Of.calls kj4 _ _ l0 _ _ l1 a2 t317 t318 _ ?side1 ?side2 ?side3 ?side4 A14.out).mono ?_); (case side1 => repeat (first | exact (Kd.C_below HR0.out HB.out) | (with_reducible refine Kd.C_alloc ?_ _) | (with_reducible refine Kd.C_drewN ?_ _) | (with_reducible refine Kd.C_drew ?_))); (case side2 => exact HC0.out); (case side3 => repeat (first | exact (Kd.C_below HR1.out HB.out) | (with_reducible refine Kd.C_alloc ?_ _) | (with_reducible refine Kd.C_drewN ?_ _) | (with_reducible refine Kd.C_drew ?_))); (case side4 => exact HC1.out); rintro e w20 ⟨v319, rfl, ho0, hb⟩; refine ⟨_, rfl, ?_⟩; have n0_ := Aside0.mk (Kd.R_lower ho0 (below_size (by repeat (first | (with_reducible first | exact HB.out | apply below_alloc | apply pw_below_drewN | apply below_drew1) | exact HB.out)))); have n1_ := Aside0.mk (below_step (by repeat (first | (with_reducible first | exact HB.out | apply below_alloc | apply pw_below_drewN | apply below_drew1) | exact HB.out)) hb); clear HB; have HO320 := n0_; have HB := n1_; clear n0_ n1_; (try clear hb); (try clear hb2); (try clear hk); (try clear hi); (try clear ho0)) | ((with_reducible refine gate_callee (f := 10) rfl ?_); refine goesL_ (some 53) rfl rfl Try.func10 (by kernel_rfl) rfl #[.slice A1 l1.length c1, .slice A0 l0.length c0, .int .i64 a2] rfl (by (try simp only [List.map_toArray, List.map_cons, List.map_nil]); first | done | rfl | (simp only [List.length_drop, List.length_take]; rfl)) ?_; (with_reducible refine (lag_Of.calls kj4 _ _ l1 _ _ l0 a2 t321 t322 _ ?side1 ?side2 ?side3 ?side4 A15.out).mono ?_); (case side1 => repeat (first | exact (Kd.C_below HR1.out HB.out) | (with_reducible refine Kd.C_alloc ?_ _) | (with_reducible refine Kd.C_drewN ?_ _) | (with_reducible refine Kd.C_drew ?_))); (case side2 => exact HC1.out); (case side3 => repeat (first | exact (Kd.C_below HR0.out HB.out) | (with_reducible refine Kd.C_alloc ?_ _) | (with_reducible refine Kd.C_drewN ?_ _) | (with_reducible refine Kd.C_drew ?_))); (case side4 => exact HC0.out); rintro e w21 ⟨v323, rfl, ho0, hb⟩; refine ⟨_, rfl, ?_⟩; have n0_ := Aside0.mk (Kd.R_elder' (by (with_reducible repeat (first | apply Kd.R_alloc | apply Kd.R_drewN | apply Kd.R_drew)); exact HO320.out) (Kd.R_base ho0) hb); have n1_ := Aside0.mk (Kd.R_lower (Kd.R_new' ho0 (Kd.R_lt (by (with_reducible repeat (first | apply Kd.R_alloc | apply Kd.R_drewN | apply Kd.R_drew)); exact HO320.out))) (below_size (by repeat (first | (with_reducible first | exact HB.out | apply below_alloc | apply pw_below_drewN | apply below_drew1) | exact HB.out)))); have n2_ := Aside0.mk (below_step (by repeat (first | (with_reducible first | exact HB.out | apply below_alloc | apply pw_below_drewN | apply below_drew1) | exact HB.out)) hb); clear HO320; clear HB; have HO320 := n0_; have HO324 := n1_; have HB := n2_; clear n0_ n1_ n2_; (try clear hb); (try clear hb2); (try clear hk); (try clear hi); (try clear ho0); obtain ⟨Ao22, co22, eo22⟩ := Kd.R_slice HO324.out; subst eo22) | ((with_reducible refine gate_callee (f := 21) rfl ?_); refine goesL_ (some 58) rfl rfl Try.func21 (by kernel_rfl) rfl #[.slice Ao22 t321.length co22] rfl (by (try simp only [List.map_toArray, List.map_cons, List.map_nil]); first | done | rfl | (simp only [List.length_drop, List.length_take]; rfl)) ?_; (with_reducible refine (lag_Flip.calls kj4 _ _ t321 t325 t326 _ ?side1 ?side2 A16.out).mono ?_); (case side1 => repeat (first | exact (Kd.R_reads' HO324.out).2.2 | (with_reducible refine Kd.C_alloc ?_ _) | (with_reducible refine Kd.C_drewN ?_ _) | (with_reducible refine Kd.C_drew ?_))); (case side2 => exact (Kd.R_reads' HO324.out).2.1); rintro e w23 ⟨v327, rfl, ho0, hb⟩; refine ⟨_, rfl, ?_⟩; have n0_ := Aside0.mk (Kd.R_elder' (by (with_reducible repeat (first | apply Kd.R_alloc | apply Kd.R_drewN | apply Kd.R_drew)); exact HO320.out) (Kd.R_base ho0) hb); have n1_ := Aside0.mk (Kd.R_elder' (by (with_reducible repeat (first | apply Kd.R_alloc | apply Kd.R_drewN | apply Kd.R_drew)); exact HO324.out) (Kd.R_base ho0) hb); have n2_ := Aside0.mk (Kd.R_lower (Kd.R_new' (Kd.R_new' ho0 (Kd.R_lt (by (with_reducible repeat (first | apply Kd.R_alloc | apply Kd.R_drewN | apply Kd.R_drew)); exact HO320.out))) (Kd.R_lt (by (with_reducible repeat (first | apply Kd.R_alloc | apply Kd.R_drewN | apply Kd.R_drew)); exact HO324.out))) (below_size (by repeat (first | (with_reducible first | exact HB.out | apply below_alloc | apply pw_below_drewN | apply below_drew1) | exact HB.out)))); have n3_ := Aside0.mk (below_step (by repeat (first | (with_reducible first | exact HB.out | apply below_alloc | apply pw_below_drewN | apply below_drew1) | exact HB.out)) hb); clear HO320; clear HO324; clear HB; have HO320 := n0_; have HO324 := n1_; have HO328 := n2_; have HB := n3_; clear n0_ n1_ n2_ n3_; (try clear hb); (try clear hb2); (try clear hk); (try clear hi); (try clear ho0)) | ((with_reducible refine gate_callee (f := 10) rfl ?_); refine goesL_ (some 65) rfl rfl Try.func10 (by kernel_rfl) rfl #[.slice A0 l0.length c0, .slice A0 l0.length c0, .int .i64 a2] rfl (by (try simp only [List.map_toArray, List.map_cons, List.map_nil]); first | done | rfl | (simp only [List.length_drop, List.length_take]; rfl)) ?_; (with_reducible refine (lag_Of.calls kj4 _ _ l0 _ _ l0 a2 t329 t330 _ ?side1 ?side2 ?side3 ?side4 A17.out).mono ?_); (case side1 => repeat (first | exact (Kd.C_below HR0.out HB.out) | (with_reducible refine Kd.C_alloc ?_ _) | (with_reducible refine Kd.C_drewN ?_ _) | (with_reducible refine Kd.C_drew ?_))); (case side2 => exact HC0.out); (case side3 => repeat (first | exact (Kd.C_below HR0.out HB.out) | (with_reducible refine Kd.C_alloc ?_ _) | (with_reducible refine Kd.C_drewN ?_ _) | (with_reducible refine Kd.C_drew ?_))); (case side4 => exact HC0.out); rintro e w24 ⟨v331, rfl, ho0, hb⟩; refine ⟨_, rfl, ?_⟩; have n0_ := Aside0.mk (Kd.R_elder' (by (with_reducible repeat (first | apply Kd.R_alloc | apply Kd.R_drewN | apply Kd.R_drew)); exact HO320.out) (Kd.R_base ho0) hb); have n1_ := Aside0.mk (Kd.R_elder' (by (with_reducible repeat (first | apply Kd.R_alloc | apply Kd.R_drewN | apply Kd.R_drew)); exact HO324.out) (Kd.R_base ho0) hb); have n2_ := Aside0.mk (Kd.R_elder' (by (with_reducible repeat (first | apply Kd.R_alloc | apply Kd.R_drewN | apply Kd.R_drew)); exact HO328.out) (Kd.R_base ho0) hb); have n3_ := Aside0.mk (Kd.R_lower (Kd.R_new' (Kd.R_new' (Kd.R_new' ho0 (Kd.R_lt (by (with_reducible repeat (first | apply Kd.R_alloc | apply Kd.R_drewN | apply Kd.R_drew)); exact HO320.out))) (Kd.R_lt (by (with_reducible repeat (first | apply Kd.R_alloc | apply Kd.R_drewN | apply Kd.R_drew)); exact HO324.out))) (Kd.R_lt (by (with_reducible repeat (first | apply Kd.R_alloc | apply Kd.R_drewN | apply Kd.R_drew)); exact HO328.out))) (below_size (by repeat (first | (with_reducible first | exact HB.out | apply below_alloc | apply pw_below_drewN | apply below_drew1) | exact HB.out)))); have n4_ := Aside0.mk (below_step (by repeat (first | (with_reducible first | exact HB.out | apply below_alloc | apply pw_below_drewN | apply below_drew1) | exact HB.out)) hb); clear HO320; clear HO324; clear HO328; clear HB; have HO320 := n0_; have HO324 := n1_; have HO328 := n2_; have HO332 := n3_; have HB := n4_; clear n0_ n1_ n2_ n3_ n4_; (try clear hb); (try clear hb2); (try clear hk); (try clear hi); (try clear ho0); obtain ⟨Ao25, co25, eo25⟩ := Kd.R_slice HO332.out; subst eo25) | ((with_reducible refine gate_callee (f := 22) rfl ?_); refine goesL_ (some 70) rfl rfl Try.func22 (by kernel_rfl) rfl #[.slice Ao25 t329.length co25] rfl (by (try simp only [List.map_toArray, List.map_cons, List.map_nil]); first | done | rfl | (simp only [List.length_drop, List.length_take]; rfl)) ?_; (with_reducible refine (lag_Peak.calls kj4 _ _ t329 t333 t334 _ ?side1 ?side2 A18.out).mono ?_); (case side1 => repeat (first | exact (Kd.R_reads' HO332.out).2.2 | (with_reducible refine Kd.C_alloc ?_ _) | (with_reducible refine Kd.C_drewN ?_ _) | (with_reducible refine Kd.C_drew ?_))); (case side2 => exact (Kd.R_reads' HO332.out).2.1); rintro e w26 ⟨rfl, hb⟩; refine ⟨_, rfl, ?_⟩; have n0_ := Aside0.mk (Kd.R_below (by (with_reducible repeat (first | apply Kd.R_alloc | apply Kd.R_drewN | apply Kd.R_drew)); exact HO320.out) hb); have n1_ := Aside0.mk (Kd.R_below (by (with_reducible repeat (first | apply Kd.R_alloc | apply Kd.R_drewN | apply Kd.R_drew)); exact HO324.out) hb); have n2_ := Aside0.mk (Kd.R_below (by (with_reducible repeat (first | apply Kd.R_alloc | apply Kd.R_drewN | apply Kd.R_drew)); exact HO328.out) hb); have n3_ := Aside0.mk (Kd.R_below (by (with_reducible repeat (first | apply Kd.R_alloc | apply Kd.R_drewN | apply Kd.R_drew)); exact HO332.out) hb); have n4_ := Aside0.mk (below_step (by repeat (first | (with_reducible first | exact HB.out | apply below_alloc | apply pw_below_drewN | apply below_drew1) | exact HB.out)) hb); clear HO320; clear HO324; clear HO328; clear HO332; clear HB; have HO320 := n0_; have HO324 := n1_; have HO328 := n2_; have HO332 := n3_; have HB := n4_; clear n0_ n1_ n2_ n3_ n4_; (try clear hb); (try clear hb2); (try clear hk); (try clear hi)))
      (try simp only [Act.put, List.setIfInBounds_toArray, List.set_cons_zero, List.set_cons_succ])
      go_cut [100] (fun v100 wc => ∃ (kq : Nat) (x100_18 : Bool), v100 = .bool x100_18 ∧ Aside0 (fringelaw16_LagTurns.j1 kq l0 t314 t333 t334 x100_18 = some r) ∧ Aside0 (kq ≤ kj4) ∧ Aside0 (Below w.heap.size w wc))
      case first =>
        have H := HC19.out
        clear HC19
        by_cases c27 : t318 = 0
        rotate_left
        · rw [if_neg c27] at H
          have c27b0 : (t318 == 0) = false := beq_eq_false_iff_ne.mpr c27
          have c27b1 : (t318 != 0) = true := bne_iff_ne.mpr c27
          (first | rw [c27b0] | (simp only [i64_w, i32_w]; rw [c27b0]) | skip)
          have H' := Aside0.mk H
          clear H
          go_wp2
          go_meet
          case rel => exact ⟨_, (true), (by first | rfl | (simp; done) | (simp [*]; done)), H', ⟨by have := HJ4.out; first | omega | exact Nat.le_refl _⟩, ⟨by repeat (first | (with_reducible first | exact HB.out | apply below_alloc | apply pw_below_drewN | apply below_drew1) | exact HB.out)⟩⟩
        rw [if_pos c27] at H
        have c27b0 : (t318 == 0) = true := beq_iff_eq.mpr c27
        have c27b1 : (t318 != 0) = false := bne_eq_false_iff_eq.mpr c27
        clear c27
        (first | rw [c27b0] | (simp only [i64_w, i32_w]; rw [c27b0]) | skip)
        by_cases c28 : t322 = 0
        rotate_left
        · rw [if_neg c28] at H
          have c28b0 : (t322 == 0) = false := beq_eq_false_iff_ne.mpr c28
          have c28b1 : (t322 != 0) = true := bne_iff_ne.mpr c28
          have H' := Aside0.mk H
          clear H
          go_wp2
          go_meet
          case rel => exact ⟨_, (true), (by first | rfl | (simp; done) | (simp [*]; done)), H', ⟨by have := HJ4.out; first | omega | exact Nat.le_refl _⟩, ⟨by repeat (first | (with_reducible first | exact HB.out | apply below_alloc | apply pw_below_drewN | apply below_drew1) | exact HB.out)⟩⟩
        rw [if_pos c28] at H
        have c28b0 : (t322 == 0) = true := beq_iff_eq.mpr c28
        have c28b1 : (t322 != 0) = false := bne_eq_false_iff_eq.mpr c28
        clear c28
        by_cases c29 : t326 = 0
        rotate_left
        · rw [if_neg c29] at H
          have c29b0 : (t326 == 0) = false := beq_eq_false_iff_ne.mpr c29
          have c29b1 : (t326 != 0) = true := bne_iff_ne.mpr c29
          have H' := Aside0.mk H
          clear H
          go_wp2
          go_meet
          case rel => exact ⟨_, (true), (by first | rfl | (simp; done) | (simp [*]; done)), H', ⟨by have := HJ4.out; first | omega | exact Nat.le_refl _⟩, ⟨by repeat (first | (with_reducible first | exact HB.out | apply below_alloc | apply pw_below_drewN | apply below_drew1) | exact HB.out)⟩⟩
        rw [if_pos c29] at H
        have c29b0 : (t326 == 0) = true := beq_iff_eq.mpr c29
        have c29b1 : (t326 != 0) = false := bne_eq_false_iff_eq.mpr c29
        clear c29
        by_cases c30 : t330 = 0
        rotate_left
        · rw [if_neg c30] at H
          have c30b0 : (t330 == 0) = false := beq_eq_false_iff_ne.mpr c30
          have c30b1 : (t330 != 0) = true := bne_iff_ne.mpr c30
          have H' := Aside0.mk H
          clear H
          go_wp2
          go_meet
          case rel => exact ⟨_, (true), (by first | rfl | (simp; done) | (simp [*]; done)), H', ⟨by have := HJ4.out; first | omega | exact Nat.le_refl _⟩, ⟨by repeat (first | (with_reducible first | exact HB.out | apply below_alloc | apply pw_below_drewN | apply below_drew1) | exact HB.out)⟩⟩
        rw [if_pos c30] at H
        have c30b0 : (t330 == 0) = true := beq_iff_eq.mpr c30
        have c30b1 : (t330 != 0) = false := bne_eq_false_iff_eq.mpr c30
        clear c30
        by_cases c31 : (t317.length : Int) = (wrap64 ((wrap64 (2 * a2)) + 1))
        rotate_left
        · rw [if_neg c31] at H
          have c31b0 : ((t317.length : Int) == (wrap64 ((wrap64 (2 * a2)) + 1))) = false := beq_eq_false_iff_ne.mpr c31
          have c31b1 : ((t317.length : Int) != (wrap64 ((wrap64 (2 * a2)) + 1))) = true := bne_iff_ne.mpr c31
          have H' := Aside0.mk H
          clear H
          obtain ⟨Ao35, co35, eo35⟩ := Kd.R_slice HO320.out
          subst eo35
          go_wp2
          go_meet
          case rel => exact ⟨_, (true), (by first | rfl | (simp; done) | (simp [*]; done)), H', ⟨by have := HJ4.out; first | omega | exact Nat.le_refl _⟩, ⟨by repeat (first | (with_reducible first | exact HB.out | apply below_alloc | apply pw_below_drewN | apply below_drew1) | exact HB.out)⟩⟩
        rw [if_pos c31] at H
        have c31b0 : ((t317.length : Int) == (wrap64 ((wrap64 (2 * a2)) + 1))) = true := beq_iff_eq.mpr c31
        have c31b1 : ((t317.length : Int) != (wrap64 ((wrap64 (2 * a2)) + 1))) = false := bne_eq_false_iff_eq.mpr c31
        clear c31
        replace H := Option.bind_eq_some_iff.mp H
        obtain ⟨t335, A320, H⟩ := H
        replace H : (fringelaw16_LagTurns.j1 kj4 l0 t314 t333 t334 (!t335)) = some r := H
        have A32 := Aside0.mk A320
        clear A320
        have H' := Aside0.mk H
        clear H
        obtain ⟨Ao33, co33, eo33⟩ := Kd.R_slice HO320.out
        subst eo33
        obtain ⟨Ao34, co34, eo34⟩ := Kd.R_slice HO328.out
        subst eo34
        go_wp2_with (first | (go_at_call 14; (with_reducible refine (fringeref16_Same.calls kj4 _ _ t317 _ _ t325 t335 _ ?side1 ?side2 ?side3 ?side4 A32.out).mono ?_); (case side1 => repeat (first | exact (Kd.R_reads' HO320.out).2.2 | (with_reducible refine Kd.C_alloc ?_ _) | (with_reducible refine Kd.C_drewN ?_ _) | (with_reducible refine Kd.C_drew ?_))); (case side2 => exact (Kd.R_reads' HO320.out).2.1); (case side3 => repeat (first | exact (Kd.R_reads' HO328.out).2.2 | (with_reducible refine Kd.C_alloc ?_ _) | (with_reducible refine Kd.C_drewN ?_ _) | (with_reducible refine Kd.C_drew ?_))); (case side4 => exact (Kd.R_reads' HO328.out).2.1); rintro e w' ⟨rfl, ⟨nd, rfl⟩⟩))
        go_meet
        case rel => exact ⟨_, (!t335), (by first | rfl | (simp; done) | (simp [*]; done)), H', ⟨by have := HJ4.out; first | omega | exact Nat.le_refl _⟩, ⟨by repeat (first | (with_reducible first | exact HB.out | apply below_alloc | apply pw_below_drewN | apply below_drew1) | exact HB.out)⟩⟩
      case rest =>
        clear HC19
        try clear c1
        try clear c2
        try clear p2
        try clear c3
        try clear c6
        try clear p6
        try clear c8
        try clear c10
        try clear c11
        try clear c11b0
        try clear c12
        try clear c12b0
        try clear c13
        try clear c16
        try clear c17
        try clear c21
        try clear c22
        try clear c27
        try clear c27b0
        try clear c27b1
        try clear c28
        try clear c28b0
        try clear c28b1
        try clear c29
        try clear c29b0
        try clear c29b1
        try clear c30
        try clear c30b0
        try clear c30b1
        try clear c31
        try clear c31b0
        try clear c31b1
        try clear p2
        obtain ⟨kq, x100_18, rfl, HA, HJ18, HB⟩ := hcut
        cases kq with
        | zero => exact absurd HA.out (by simp [fringelaw16_LagTurns.j1])
        | succ kj18 =>
          have H := HA.out
          clear HA
          simp only [fringelaw16_LagTurns.j1] at H
          by_cases c36 : x100_18 = true
          · subst c36
            have H1 : (some false) = some r := by rw [if_pos rfl] at H; exact H
            clear H
            have H := H1
            clear H1
            exact absurd ((Option.some.inj H).trans HRT.out) (by decide)
          replace c36 := Bool.eq_false_iff.mpr c36
          subst c36
          have H1 : (fringelaw16_LagTurns.l0 kj18 l0 t314 t333 t334 true 0) = some r := by rw [if_neg (show ¬ (false = true) by decide)] at H; exact H
          clear H
          have H := H1
          clear H1
          have H' := Aside0.mk H
          clear H
          go_wp2
          go_loopg [18, 19] kj18 (fun kq v18 v19 w' => ∃ (x18_3 : Bool) (x19_3 : Int), v18 = .bool x18_3 ∧ v19 = .int .i64 x19_3 ∧ Aside0 (fringelaw16_LagTurns.l0 kq l0 t314 t333 t334 x18_3 x19_3 = some r) ∧ Aside0 (kq ≤ kj18) ∧ Aside0 (Below w.heap.size w w'))
          case atStart => exact ⟨(true), (0), (by first | rfl | (simp; done) | (simp [*]; done)), (by first | rfl | (simp; done) | (simp [*]; done)), H', ⟨Nat.le_refl _⟩, ⟨by repeat (first | (with_reducible first | exact HB.out | apply below_alloc | apply pw_below_drewN | apply below_drew1) | exact HB.out)⟩⟩
          case round =>
            clear H'
            try clear c1
            try clear c2
            try clear p2
            try clear c3
            try clear c6
            try clear p6
            try clear c8
            try clear c10
            try clear c11
            try clear c11b0
            try clear c12
            try clear c12b0
            try clear c13
            try clear c16
            try clear c17
            try clear c21
            try clear c22
            try clear c27
            try clear c27b0
            try clear c27b1
            try clear c28
            try clear c28b0
            try clear c28b1
            try clear c29
            try clear c29b0
            try clear c29b1
            try clear c30
            try clear c30b0
            try clear c30b1
            try clear c31
            try clear c31b0
            try clear c31b1
            try clear c36
            try clear p2
            try clear p6
            obtain ⟨x18_3, x19_3, rfl, rfl, HA, HK3, HB⟩ := hrel
            cases gk with
            | zero => exact absurd HA.out (by simp [fringelaw16_LagTurns.l0])
            | succ k3 =>
              have H := HA.out
              clear HA
              simp only [fringelaw16_LagTurns.l0] at H
              by_cases c37 : x19_3 < (l0.length : Int)
              · rw [if_pos c37] at H
                have c37b0 : decide (x19_3 < (l0.length : Int)) = true := decide_eq_true c37
                clear c37
                by_cases c38 : x18_3 = true
                rotate_left
                · replace c38 := Bool.eq_false_iff.mpr c38
                  subst c38
                  have H1 : (fringelaw16_LagTurns.l0 k3 l0 t314 t333 t334 false (wrap64 (x19_3 + 1))) = some r := by rw [if_neg (show ¬ (false = true) by decide)] at H; exact H
                  clear H
                  have H := H1
                  clear H1
                  have H' := Aside0.mk H
                  clear H
                  go_wp2
                  go_roundg k3
                  case measure => have := HJ4.out; have := HJ18.out; have := HK3.out; omega
                  case rel => exact ⟨(false), (wrap64 (x19_3 + 1)), (by first | rfl | (simp; done) | (simp [*]; done)), (by first | rfl | (simp; done) | (simp [*]; done)), H', ⟨by have := HJ4.out; have := HJ18.out; have := HK3.out; omega⟩, ⟨by repeat (first | (with_reducible first | exact HB.out | apply below_alloc | apply pw_below_drewN | apply below_drew1) | exact HB.out)⟩⟩
                subst c38
                have H1 : (if 0 ≤ x19_3 then (fringelaw16_LagTurns.l0 k3 l0 t314 t333 t334 ((rd l0 x19_3) == 0) (wrap64 (x19_3 + 1))) else (none)) = some r := by rw [if_pos rfl] at H; exact H
                clear H
                have H := H1
                clear H1
                by_cases c39 : 0 ≤ x19_3
                rotate_left
                · rw [if_neg c39] at H
                  exact absurd H (by simp)
                rw [if_pos c39] at H
                have c39b0 : decide (0 ≤ x19_3) = true := decide_eq_true c39
                clear c39
                have H' := Aside0.mk H
                clear H
                have p336 : 0 ≤ (x19_3 : Int) := of_decide_eq_true (by first | (with_reducible assumption) | assumption)
                have q336 : x19_3 < (l0.length : Int) := of_decide_eq_true (by first | (with_reducible assumption) | assumption)
                obtain ⟨ad336, e336, hx336_0⟩ := Kd.at_int HR0.out x19_3 p336 q336
                cases e336
                replace hx336_0 := (HB.out.cell (World.block_lt_of_cell? w _ hx336_0)).trans hx336_0
                replace p336 := eq_true p336
                replace q336 := eq_true q336
                go_wp2
                go_roundg k3
                case measure => have := HJ4.out; have := HJ18.out; have := HK3.out; omega
                case rel => exact ⟨(((rd l0 x19_3) == 0)), (wrap64 (x19_3 + 1)), (by first | rfl | (simp; done) | (simp [*]; done)), (by first | rfl | (simp; done) | (simp [*]; done)), H', ⟨by have := HJ4.out; have := HJ18.out; have := HK3.out; omega⟩, ⟨by repeat (first | (with_reducible first | exact HB.out | apply below_alloc | apply pw_below_drewN | apply below_drew1) | exact HB.out)⟩⟩
              rw [if_neg c37] at H
              have c37b0 : decide (x19_3 < (l0.length : Int)) = false := decide_eq_false c37
              clear c37
              by_cases c40 : t314 = true
              rotate_left
              · replace c40 := Bool.eq_false_iff.mpr c40
                subst c40
                have H1 : (some false) = some r := by rw [if_neg (show ¬ (false = true) by decide)] at H; exact H
                clear H
                have H := H1
                clear H1
                exact absurd ((Option.some.inj H).trans HRT.out) (by decide)

              subst c40
              have H1 : (if x18_3 = true then (if t334 = 18 then (some true) else (some false)) else (if t334 = 0 then (some (t333 == 0)) else (some false))) = some r := by rw [if_pos rfl] at H; exact H
              clear H
              have H := H1
              clear H1
              by_cases c41 : x18_3 = true
              · subst c41
                have H1 : (if t334 = 18 then (some true) else (some false)) = some r := by rw [if_pos rfl] at H; exact H
                clear H
                have H := H1
                clear H1
                by_cases c42 : t334 = 18
                rotate_left
                · rw [if_neg c42] at H
                  have c42b0 : (t334 == 18) = false := beq_eq_false_iff_ne.mpr c42
                  have c42b1 : (t334 != 18) = true := bne_iff_ne.mpr c42
                  exact absurd ((Option.some.inj H).trans HRT.out) (by decide)
                rw [if_pos c42] at H
                have c42b0 : (t334 == 18) = true := beq_iff_eq.mpr c42
                have c42b1 : (t334 != 18) = false := bne_eq_false_iff_eq.mpr c42
                clear c42
                obtain rfl := Option.some.inj H
                go_wp2
                go_ret
                exact ⟨by first | rfl | (simp [errW_none, errW_some] <;> rfl) | (simp [*, errW_none, errW_some] <;> rfl), by repeat (first | (with_reducible first | exact HB.out | apply below_alloc | apply pw_below_drewN | apply below_drew1) | exact HB.out)⟩
              replace c41 := Bool.eq_false_iff.mpr c41
              subst c41
              have H1 : (if t334 = 0 then (some (t333 == 0)) else (some false)) = some r := by rw [if_neg (show ¬ (false = true) by decide)] at H; exact H
              clear H
              have H := H1
              clear H1
              by_cases c43 : t334 = 0
              rotate_left
              · rw [if_neg c43] at H
                have c43b0 : (t334 == 0) = false := beq_eq_false_iff_ne.mpr c43
                have c43b1 : (t334 != 0) = true := bne_iff_ne.mpr c43
                exact absurd ((Option.some.inj H).trans HRT.out) (by decide)
              rw [if_pos c43] at H
              have c43b0 : (t334 == 0) = true := beq_iff_eq.mpr c43
              have c43b1 : (t334 != 0) = false := bne_eq_false_iff_eq.mpr c43
              clear c43
              obtain rfl := Option.some.inj H
              go_wp2
              go_ret
              exact ⟨by first | rfl | (simp [errW_none, errW_some] <;> rfl) | (simp [*, errW_none, errW_some] <;> rfl), by repeat (first | (with_reducible first | exact HB.out | apply below_alloc | apply pw_below_drewN | apply below_drew1) | exact HB.out)⟩
/-- THE ONE PURE STATEMENT of fringelaw16_LagTurns: yours. -/
def fringelaw16_LagTurns.Pure : Prop := ∀ (l0 : List Int) (l1 : List Int) (a2 : Int), l0.length ≤ maxLen → l0.length * 8 ≤ 140737488351232 → (∀ x ∈ l0, (Lit.int .i64 x).wf = true) → l1.length ≤ maxLen → l1.length * 8 ≤ 140737488351232 → (∀ x ∈ l1, (Lit.int .i64 x).wf = true) → (Lit.int .i64 a2).wf = true → ∃ k, fringelaw16_LagTurns.f k l0 l1 a2 = some true
theorem fringelaw16_LagTurns.walk (P : fringelaw16_LagTurns.Pure) (a0 : Option Addr) (len0 cap0 : Nat) (z0 : List Int) (a1 : Option Addr) (len1 cap1 : Nat) (z1 : List Int) (a2 : Int) (w : World) (w0 : (a0 = none ∧ len0 = 0 ∧ cap0 = 0 ∧ z0 = []) ∨ ∃ x, a0 = some x ∧ len0 ≤ cap0 ∧ cap0 ≤ maxLen ∧ z0.length = cap0 ∧ (∀ i, i < z0.length → w.cell? (x.add i) = some (.int .i64 (z0.getD i 0))) ∧ ∀ n ∈ z0, (Lit.int .i64 n).wf = true) (y0 : len0 * 8 ≤ 140737488351232) (w1 : (a1 = none ∧ len1 = 0 ∧ cap1 = 0 ∧ z1 = []) ∨ ∃ x, a1 = some x ∧ len1 ≤ cap1 ∧ cap1 ≤ maxLen ∧ z1.length = cap1 ∧ (∀ i, i < z1.length → w.cell? (x.add i) = some (.int .i64 (z1.getD i 0))) ∧ ∀ n ∈ z1, (Lit.int .i64 n).wf = true) (y1 : len1 * 8 ≤ 140737488351232) (w2 : (Lit.int .i64 a2).wf = true) :
    Calls Try.prog 6 #[.slice a0 len0 cap0, .slice a1 len1 cap1, .int .i64 a2] w fun e w' => e = .returned (.bool true) ∧ Below w.heap.size w w' := by
  obtain ⟨l0, rfl, hr0, hm0, hw0, hc0⟩ := ReadsInt.ofRowC w0
  obtain ⟨l1, rfl, hr1, hm1, hw1, hc1⟩ := ReadsInt.ofRowC w1
  obtain ⟨k, h⟩ := P l0 l1 a2 hm0 y0 hw0 hm1 y1 hw1 w2
  refine (fringelaw16_LagTurns.calls k _ _ l0 _ _ l1 a2 true w (Kd.C_of_reads (d := (0 : Int)) (h1 := fun _ => rfl) hr0) hc0 (Kd.C_of_reads (d := (0 : Int)) (h1 := fun _ => rfl) hr1) hc1 rfl h).mono ?_
  rintro e w' ⟨rfl, hd⟩
  exact ⟨rfl, hd⟩

end Go.Proofs.Ytajdbccapandgaa.PAll
