-- Written by a program of this session, after the kit's print
import Derived.Test.YtbeidonfmeengaaPAllx0
import Derived.Test.YtbeidonfmeengaaPAllx2
import Derived.Test.YtbeidonfmeengaaPAllx4
import Derived.Test.YtbeidonfmeengaaPAllx5
import Derived.Test.YtbeidonfmeengaaPAllx7
import Derived.Test.YtbeidonfmeengaaPAllx9
import Derived.Test.YtbeidonfmeengaaPAllx10
namespace Go.Proofs.Ytbeidonfmeengaa.PAll
open Go.RowKit Go.Proofs.YtbeidonfmeengaaW.PrintWords Go.Proofs.YtbeidonfmeengaaW.PrintLast Go.Proofs.YtbeidonfmeengaaW.PrintMore
attribute [local go_sem] max2_int min2_int max_two min_two max_three min_three max_four min_four   -- for this text's walks alone
set_option linter.unusedVariables false
set_option linter.unusedSimpArgs false

/-! ### fringelaw11_FourierShifts: function 8 -/
def fringelaw11_FourierShifts.j0 : Nat → Int → List Int → Int → Bool → Option (Bool)
  | 0, _, _, _, _ => none
  | k + 1, x0, x1, x2, x32 => if x32 = true then ((fringelaw11_alive.f).bind fun t523 => (some t523)) else ((fourier_Turn.f k x0 x1 x2).bind fun bt524 => ((fourier_Forward.f k x0 bt524.1).bind fun bt528 => ((fourier_Forward.f k x0 x1).bind fun bt532 => ((fourier_Phase.f k x0 bt532.1 x2).bind fun bt536 => ((fourier_Turn.f k x0 bt524.1 (wrap64 (-x2))).bind fun bt540 => (if 0 ≤ (x1.length : Int) then (if ((x1.length : Int) : Int).toNat ≤ 35184372088832 then ((some (List.replicate ((x1.length : Int) : Int).toNat 0 : List Int)).bind fun y544 => (if (x1.length : Int) = 0 then (none) else (if 0 ≤ (Int.tmod (wrap64 ((Int.tmod x2 (x1.length : Int)) + (x1.length : Int))) (x1.length : Int)) then (if (Int.tmod (wrap64 ((Int.tmod x2 (x1.length : Int)) + (x1.length : Int))) (x1.length : Int)) < (y544.length : Int) then ((fourier_Convolve.f k x0 x1 (y544.set ((Int.tmod (wrap64 ((Int.tmod x2 (x1.length : Int)) + (x1.length : Int))) (x1.length : Int)) : Int).toNat 1)).bind fun bt548 => (if bt524.2 = 0 then (if bt528.2 = 0 then (if bt532.2 = 0 then (if bt536.2 = 0 then ((fringeref10_Same.f k bt528.1 bt536.1).bind fun t552 => (if t552 = true then (if bt540.2 = 0 then ((fringeref10_Same.f k bt540.1 x1).bind fun t553 => (if t553 = true then (if bt548.2 = 0 then ((fringeref10_Same.f k bt548.1 bt524.1).bind fun t554 => (if t554 = true then ((fringelaw11_alive.f).bind fun t555 => (some t555)) else (some false))) else (some false)) else (some false))) else (some false)) else (some false))) else (some false)) else (some false)) else (some false)) else (some false))) else (none)) else (none)))) else (none)) else (none)))))))
def fringelaw11_FourierShifts.f (k : Nat) (a0 : Int) (l1 : List Int) (a2 : Int) : Option (Bool) := (fringelaw11_fit.f k a0 l1 l1).bind fun t522 => (if t522 = true then (if a2 < (-1000000) then (fringelaw11_FourierShifts.j0 k a0 l1 a2 true) else (fringelaw11_FourierShifts.j0 k a0 l1 a2 (decide (a2 > 1000000)))) else (fringelaw11_FourierShifts.j0 k a0 l1 a2 true))
theorem fringelaw11_FourierShifts.mono_l : ∀ k, (∀ y0 y1 y2 y3, LeO (fringelaw11_FourierShifts.j0 k y0 y1 y2 y3) (fringelaw11_FourierShifts.j0 (k + 1) y0 y1 y2 y3))
  | 0 => fun _ _ _ _ r h => by simp [fringelaw11_FourierShifts.j0] at h
  | k + 1 => by
    have ih0 := fringelaw11_FourierShifts.mono_l k
    · intro y0 y1 y2 y3
      unfold fringelaw11_FourierShifts.j0
      repeat' first
      | (with_reducible exact ih0 _ _ _ _)
      | (with_reducible exact fourier_Convolve.mono _ _ _ _)
      | (with_reducible exact fourier_Forward.mono _ _ _)
      | (with_reducible exact fourier_Phase.mono _ _ _ _)
      | (with_reducible exact fourier_Turn.mono _ _ _ _)
      | (with_reducible exact fringelaw11_fit.mono _ _ _ _)
      | (with_reducible exact fringeref10_Same.mono _ _ _)
      | (with_reducible exact LeO.refl _)
      | (with_reducible exact LeO.none _)
      | (with_reducible refine LeO.ite ?_ ?_)
      | (with_reducible refine LeO.bind ?_ (fun _ => ?_))
      | exact ih0 _ _ _ _
      | exact fourier_Convolve.mono _ _ _ _
      | exact fourier_Forward.mono _ _ _
      | exact fourier_Phase.mono _ _ _ _
      | exact fourier_Turn.mono _ _ _ _
      | exact fringelaw11_fit.mono _ _ _ _
      | exact fringeref10_Same.mono _ _ _
      | exact LeO.none _
      | refine LeO.ite ?_ ?_
      | refine LeO.bind ?_ (fun _ => ?_)
theorem fringelaw11_FourierShifts.mono : ∀ a0 a1 a2 k, LeO (fringelaw11_FourierShifts.f k a0 a1 a2) (fringelaw11_FourierShifts.f (k + 1) a0 a1 a2) := by
  intro a0 a1 a2 k
  have ih0 := fringelaw11_FourierShifts.mono_l k
  unfold fringelaw11_FourierShifts.f
  repeat' first
      | (with_reducible exact ih0 _ _ _ _)
      | (with_reducible exact fourier_Convolve.mono _ _ _ _)
      | (with_reducible exact fourier_Forward.mono _ _ _)
      | (with_reducible exact fourier_Phase.mono _ _ _ _)
      | (with_reducible exact fourier_Turn.mono _ _ _ _)
      | (with_reducible exact fringelaw11_fit.mono _ _ _ _)
      | (with_reducible exact fringeref10_Same.mono _ _ _)
      | (with_reducible exact LeO.refl _)
      | (with_reducible exact LeO.none _)
      | (with_reducible refine LeO.ite ?_ ?_)
      | (with_reducible refine LeO.bind ?_ (fun _ => ?_))
      | exact ih0 _ _ _ _
      | exact fourier_Convolve.mono _ _ _ _
      | exact fourier_Forward.mono _ _ _
      | exact fourier_Phase.mono _ _ _ _
      | exact fourier_Turn.mono _ _ _ _
      | exact fringelaw11_fit.mono _ _ _ _
      | exact fringeref10_Same.mono _ _ _
      | exact LeO.none _
      | refine LeO.ite ?_ ?_
      | refine LeO.bind ?_ (fun _ => ?_)
set_option maxHeartbeats 8000000 in
set_option maxRecDepth 100000 in
theorem fringelaw11_FourierShifts.calls (k : Nat) (a0 : Int) (A1 : Option Addr) (c1 : Nat) (l1 : List Int) (a2 : Int) (r : Bool) (w : World) (hr1 : Kd.C (Kd.int .i64) w A1 l1.length l1) (hc1 : l1.length ≤ c1) (hrt : r = true) (h : fringelaw11_FourierShifts.f k a0 l1 a2 = some r) :
    Calls Try.prog 8 #[.int .i64 a0, .slice A1 l1.length c1, .int .i64 a2] w fun e w' => e = .returned (.bool r) ∧ Below w.heap.size w w' := by
  have HR1 := Aside0.mk hr1
  have HC1 := Aside0.mk hc1
  clear hr1 hc1
  have HB := Aside0.mk (Below.refl w.heap.size w)
  have HRT := Aside0.mk hrt
  clear hrt
  have H : ((fringelaw11_fit.f k a0 l1 l1).bind fun t522 => (if t522 = true then (if a2 < (-1000000) then (fringelaw11_FourierShifts.j0 k a0 l1 a2 true) else (fringelaw11_FourierShifts.j0 k a0 l1 a2 (decide (a2 > 1000000)))) else (fringelaw11_FourierShifts.j0 k a0 l1 a2 true))) = some r := h
  clear h
  have HC4 := Aside0.mk H
  clear H
  go_enter Try.func8, Try.ntmps8
  go_upto_region 1 with (fail)
  go_cut [32] (fun v32 wc => ∃ (kq : Nat) (x32_3 : Bool), v32 = .bool x32_3 ∧ Aside0 (fringelaw11_FourierShifts.j0 kq a0 l1 a2 x32_3 = some r) ∧ Aside0 (kq ≤ k) ∧ Aside0 (Below w.heap.size w wc))
  case first =>
    have H := HC4.out
    clear HC4
    replace H := Option.bind_eq_some_iff.mp H
    obtain ⟨t522, A50, H⟩ := H
    replace H : (if t522 = true then (if a2 < (-1000000) then (fringelaw11_FourierShifts.j0 k a0 l1 a2 true) else (fringelaw11_FourierShifts.j0 k a0 l1 a2 (decide (a2 > 1000000)))) else (fringelaw11_FourierShifts.j0 k a0 l1 a2 true)) = some r := H
    have A5 := Aside0.mk A50
    clear A50
    by_cases c6 : t522 = true
    rotate_left
    · replace c6 := Bool.eq_false_iff.mpr c6
      subst c6
      have H1 : (fringelaw11_FourierShifts.j0 k a0 l1 a2 true) = some r := by rw [if_neg (show ¬ (false = true) by decide)] at H; exact H
      clear H
      have H := H1
      clear H1
      have H' := Aside0.mk H
      clear H
      go_wp2_with (first | ((with_reducible refine gate_callee (f := 28) rfl ?_); refine goesL_ (some 23) rfl rfl Try.func28 (by kernel_rfl) rfl #[.int .i64 a0, .slice A1 l1.length c1, .slice A1 l1.length c1] rfl (by (try simp only [List.map_toArray, List.map_cons, List.map_nil]); first | done | rfl | (simp only [List.length_drop, List.length_take]; rfl)) ?_; (with_reducible refine (fringelaw11_fit.calls k a0 _ _ l1 _ _ l1 false _ ?side1 ?side2 ?side3 ?side4 A5.out).mono ?_); (case side1 => repeat (first | exact (Kd.C_below HR1.out HB.out) | (with_reducible refine Kd.C_alloc ?_ _) | (with_reducible refine Kd.C_drewN ?_ _) | (with_reducible refine Kd.C_drew ?_))); (case side2 => exact HC1.out); (case side3 => repeat (first | exact (Kd.C_below HR1.out HB.out) | (with_reducible refine Kd.C_alloc ?_ _) | (with_reducible refine Kd.C_drewN ?_ _) | (with_reducible refine Kd.C_drew ?_))); (case side4 => exact HC1.out); rintro e w10 ⟨rfl, hb⟩; refine ⟨_, rfl, ?_⟩; have n0_ := Aside0.mk (below_step (by repeat (first | (with_reducible first | exact HB.out | apply below_alloc | apply pw_below_drewN | apply below_drew1) | exact HB.out)) hb); clear HB; have HB := n0_; clear n0_; (try clear hb); (try clear hb2); (try clear hk); (try clear hi)))
      go_meet
      case rel => exact ⟨_, (true), (by first | rfl | (simp; done) | (simp [*]; done) | (simp [i64_w]; done)), H', ⟨by first | omega | exact Nat.le_refl _⟩, ⟨by repeat (first | (with_reducible first | exact HB.out | apply below_alloc | apply pw_below_drewN | apply below_drew1) | exact HB.out)⟩⟩
    subst c6
    have H1 : (if a2 < (-1000000) then (fringelaw11_FourierShifts.j0 k a0 l1 a2 true) else (fringelaw11_FourierShifts.j0 k a0 l1 a2 (decide (a2 > 1000000)))) = some r := by rw [if_pos rfl] at H; exact H
    clear H
    have H := H1
    clear H1
    by_cases c7 : a2 < (-1000000)
    · rw [if_pos c7] at H
      have c7b0 : decide (a2 < (-1000000)) = true := decide_eq_true c7
      clear c7
      (first | rw [c7b0] | (simp only [i64_w, i32_w]; rw [c7b0]) | skip)
      have H' := Aside0.mk H
      clear H
      go_wp2_with (first | ((with_reducible refine gate_callee (f := 28) rfl ?_); refine goesL_ (some 23) rfl rfl Try.func28 (by kernel_rfl) rfl #[.int .i64 a0, .slice A1 l1.length c1, .slice A1 l1.length c1] rfl (by (try simp only [List.map_toArray, List.map_cons, List.map_nil]); first | done | rfl | (simp only [List.length_drop, List.length_take]; rfl)) ?_; (with_reducible refine (fringelaw11_fit.calls k a0 _ _ l1 _ _ l1 true _ ?side1 ?side2 ?side3 ?side4 A5.out).mono ?_); (case side1 => repeat (first | exact (Kd.C_below HR1.out HB.out) | (with_reducible refine Kd.C_alloc ?_ _) | (with_reducible refine Kd.C_drewN ?_ _) | (with_reducible refine Kd.C_drew ?_))); (case side2 => exact HC1.out); (case side3 => repeat (first | exact (Kd.C_below HR1.out HB.out) | (with_reducible refine Kd.C_alloc ?_ _) | (with_reducible refine Kd.C_drewN ?_ _) | (with_reducible refine Kd.C_drew ?_))); (case side4 => exact HC1.out); rintro e w8 ⟨rfl, hb⟩; refine ⟨_, rfl, ?_⟩; have n0_ := Aside0.mk (below_step (by repeat (first | (with_reducible first | exact HB.out | apply below_alloc | apply pw_below_drewN | apply below_drew1) | exact HB.out)) hb); clear HB; have HB := n0_; clear n0_; (try clear hb); (try clear hb2); (try clear hk); (try clear hi)))
      go_meet
      case rel => exact ⟨_, (true), (by first | rfl | (simp; done) | (simp [*]; done) | (simp [i64_w]; done)), H', ⟨by first | omega | exact Nat.le_refl _⟩, ⟨by repeat (first | (with_reducible first | exact HB.out | apply below_alloc | apply pw_below_drewN | apply below_drew1) | exact HB.out)⟩⟩
    rw [if_neg c7] at H
    have c7b0 : decide (a2 < (-1000000)) = false := decide_eq_false c7
    clear c7
    (first | rw [c7b0] | (simp only [i64_w, i32_w]; rw [c7b0]) | skip)
    have H' := Aside0.mk H
    clear H
    go_wp2_with (first | ((with_reducible refine gate_callee (f := 28) rfl ?_); refine goesL_ (some 23) rfl rfl Try.func28 (by kernel_rfl) rfl #[.int .i64 a0, .slice A1 l1.length c1, .slice A1 l1.length c1] rfl (by (try simp only [List.map_toArray, List.map_cons, List.map_nil]); first | done | rfl | (simp only [List.length_drop, List.length_take]; rfl)) ?_; (with_reducible refine (fringelaw11_fit.calls k a0 _ _ l1 _ _ l1 true _ ?side1 ?side2 ?side3 ?side4 A5.out).mono ?_); (case side1 => repeat (first | exact (Kd.C_below HR1.out HB.out) | (with_reducible refine Kd.C_alloc ?_ _) | (with_reducible refine Kd.C_drewN ?_ _) | (with_reducible refine Kd.C_drew ?_))); (case side2 => exact HC1.out); (case side3 => repeat (first | exact (Kd.C_below HR1.out HB.out) | (with_reducible refine Kd.C_alloc ?_ _) | (with_reducible refine Kd.C_drewN ?_ _) | (with_reducible refine Kd.C_drew ?_))); (case side4 => exact HC1.out); rintro e w9 ⟨rfl, hb⟩; refine ⟨_, rfl, ?_⟩; have n0_ := Aside0.mk (below_step (by repeat (first | (with_reducible first | exact HB.out | apply below_alloc | apply pw_below_drewN | apply below_drew1) | exact HB.out)) hb); clear HB; have HB := n0_; clear n0_; (try clear hb); (try clear hb2); (try clear hk); (try clear hi)))
    go_meet
    case rel => exact ⟨_, (decide (a2 > 1000000)), (by first | rfl | (simp; done) | (simp [*]; done) | (simp [i64_w]; done)), H', ⟨by first | omega | exact Nat.le_refl _⟩, ⟨by repeat (first | (with_reducible first | exact HB.out | apply below_alloc | apply pw_below_drewN | apply below_drew1) | exact HB.out)⟩⟩
  case rest =>
    clear HC4
    try clear c1
    try clear c2
    try clear p2
    try clear c6
    try clear c7
    try clear c7b0
    try clear c8
    obtain ⟨kq, x32_3, rfl, HA, HJ3, HB⟩ := hcut
    cases kq with
    | zero => exact absurd HA.out (by simp [fringelaw11_FourierShifts.j0])
    | succ kj3 =>
      have H := HA.out
      clear HA
      simp only [fringelaw11_FourierShifts.j0] at H
      by_cases c11 : x32_3 = true
      · subst c11
        have H1 : ((fringelaw11_alive.f).bind fun t523 => (some t523)) = some r := by rw [if_pos rfl] at H; exact H
        clear H
        have H := H1
        clear H1
        replace H := Option.bind_eq_some_iff.mp H
        obtain ⟨t523, A120, H⟩ := H
        replace H : (some t523) = some r := H
        have A12 := Aside0.mk A120
        clear A120
        obtain rfl := Option.some.inj H
        go_wp2_with (first | ((with_reducible refine gate_callee (f := 29) rfl ?_); refine goesL_ (some 33) rfl rfl Try.func29 (by kernel_rfl) rfl #[] rfl (by (try simp only [List.map_toArray, List.map_cons, List.map_nil]); first | done | rfl | (simp only [List.length_drop, List.length_take]; rfl)) ?_; (with_reducible refine (fringelaw11_alive.calls  t523 _ A12.out).mono ?_); rintro e w13 ⟨rfl, hb⟩; refine ⟨_, rfl, ?_⟩; have n0_ := Aside0.mk (below_step (by repeat (first | (with_reducible first | exact HB.out | apply below_alloc | apply pw_below_drewN | apply below_drew1) | exact HB.out)) hb); clear HB; have HB := n0_; clear n0_; (try clear hb); (try clear hb2); (try clear hk); (try clear hi)))
        go_ret
        exact ⟨by first | rfl | (simp [errW_none, errW_some] <;> rfl) | (simp [*, errW_none, errW_some] <;> rfl), by repeat (first | (with_reducible first | exact HB.out | apply below_alloc | apply pw_below_drewN | apply below_drew1) | exact HB.out)⟩
      replace c11 := Bool.eq_false_iff.mpr c11
      subst c11
      have H1 : ((fourier_Turn.f kj3 a0 l1 a2).bind fun bt524 => ((fourier_Forward.f kj3 a0 bt524.1).bind fun bt528 => ((fourier_Forward.f kj3 a0 l1).bind fun bt532 => ((fourier_Phase.f kj3 a0 bt532.1 a2).bind fun bt536 => ((fourier_Turn.f kj3 a0 bt524.1 (wrap64 (-a2))).bind fun bt540 => (if 0 ≤ (l1.length : Int) then (if ((l1.length : Int) : Int).toNat ≤ 35184372088832 then ((some (List.replicate ((l1.length : Int) : Int).toNat 0 : List Int)).bind fun y544 => (if (l1.length : Int) = 0 then (none) else (if 0 ≤ (Int.tmod (wrap64 ((Int.tmod a2 (l1.length : Int)) + (l1.length : Int))) (l1.length : Int)) then (if (Int.tmod (wrap64 ((Int.tmod a2 (l1.length : Int)) + (l1.length : Int))) (l1.length : Int)) < (y544.length : Int) then ((fourier_Convolve.f kj3 a0 l1 (y544.set ((Int.tmod (wrap64 ((Int.tmod a2 (l1.length : Int)) + (l1.length : Int))) (l1.length : Int)) : Int).toNat 1)).bind fun bt548 => (if bt524.2 = 0 then (if bt528.2 = 0 then (if bt532.2 = 0 then (if bt536.2 = 0 then ((fringeref10_Same.f kj3 bt528.1 bt536.1).bind fun t552 => (if t552 = true then (if bt540.2 = 0 then ((fringeref10_Same.f kj3 bt540.1 l1).bind fun t553 => (if t553 = true then (if bt548.2 = 0 then ((fringeref10_Same.f kj3 bt548.1 bt524.1).bind fun t554 => (if t554 = true then ((fringelaw11_alive.f).bind fun t555 => (some t555)) else (some false))) else (some false)) else (some false))) else (some false)) else (some false))) else (some false)) else (some false)) else (some false)) else (some false))) else (none)) else (none)))) else (none)) else (none))))))) = some r := by rw [if_neg (show ¬ (false = true) by decide)] at H; exact H
      clear H
      have H := H1
      clear H1
      replace H := Option.bind_eq_some_iff.mp H
      obtain ⟨⟨t524, t525⟩, A140, H⟩ := H
      replace H : ((fourier_Forward.f kj3 a0 t524).bind fun bt528 => ((fourier_Forward.f kj3 a0 l1).bind fun bt532 => ((fourier_Phase.f kj3 a0 bt532.1 a2).bind fun bt536 => ((fourier_Turn.f kj3 a0 t524 (wrap64 (-a2))).bind fun bt540 => (if 0 ≤ (l1.length : Int) then (if ((l1.length : Int) : Int).toNat ≤ 35184372088832 then ((some (List.replicate ((l1.length : Int) : Int).toNat 0 : List Int)).bind fun y544 => (if (l1.length : Int) = 0 then (none) else (if 0 ≤ (Int.tmod (wrap64 ((Int.tmod a2 (l1.length : Int)) + (l1.length : Int))) (l1.length : Int)) then (if (Int.tmod (wrap64 ((Int.tmod a2 (l1.length : Int)) + (l1.length : Int))) (l1.length : Int)) < (y544.length : Int) then ((fourier_Convolve.f kj3 a0 l1 (y544.set ((Int.tmod (wrap64 ((Int.tmod a2 (l1.length : Int)) + (l1.length : Int))) (l1.length : Int)) : Int).toNat 1)).bind fun bt548 => (if t525 = 0 then (if bt528.2 = 0 then (if bt532.2 = 0 then (if bt536.2 = 0 then ((fringeref10_Same.f kj3 bt528.1 bt536.1).bind fun t552 => (if t552 = true then (if bt540.2 = 0 then ((fringeref10_Same.f kj3 bt540.1 l1).bind fun t553 => (if t553 = true then (if bt548.2 = 0 then ((fringeref10_Same.f kj3 bt548.1 t524).bind fun t554 => (if t554 = true then ((fringelaw11_alive.f).bind fun t555 => (some t555)) else (some false))) else (some false)) else (some false))) else (some false)) else (some false))) else (some false)) else (some false)) else (some false)) else (some false))) else (none)) else (none)))) else (none)) else (none)))))) = some r := H
      have A14 := Aside0.mk A140
      clear A140
      replace H := Option.bind_eq_some_iff.mp H
      obtain ⟨⟨t528, t529⟩, A150, H⟩ := H
      replace H : ((fourier_Forward.f kj3 a0 l1).bind fun bt532 => ((fourier_Phase.f kj3 a0 bt532.1 a2).bind fun bt536 => ((fourier_Turn.f kj3 a0 t524 (wrap64 (-a2))).bind fun bt540 => (if 0 ≤ (l1.length : Int) then (if ((l1.length : Int) : Int).toNat ≤ 35184372088832 then ((some (List.replicate ((l1.length : Int) : Int).toNat 0 : List Int)).bind fun y544 => (if (l1.length : Int) = 0 then (none) else (if 0 ≤ (Int.tmod (wrap64 ((Int.tmod a2 (l1.length : Int)) + (l1.length : Int))) (l1.length : Int)) then (if (Int.tmod (wrap64 ((Int.tmod a2 (l1.length : Int)) + (l1.length : Int))) (l1.length : Int)) < (y544.length : Int) then ((fourier_Convolve.f kj3 a0 l1 (y544.set ((Int.tmod (wrap64 ((Int.tmod a2 (l1.length : Int)) + (l1.length : Int))) (l1.length : Int)) : Int).toNat 1)).bind fun bt548 => (if t525 = 0 then (if t529 = 0 then (if bt532.2 = 0 then (if bt536.2 = 0 then ((fringeref10_Same.f kj3 t528 bt536.1).bind fun t552 => (if t552 = true then (if bt540.2 = 0 then ((fringeref10_Same.f kj3 bt540.1 l1).bind fun t553 => (if t553 = true then (if bt548.2 = 0 then ((fringeref10_Same.f kj3 bt548.1 t524).bind fun t554 => (if t554 = true then ((fringelaw11_alive.f).bind fun t555 => (some t555)) else (some false))) else (some false)) else (some false))) else (some false)) else (some false))) else (some false)) else (some false)) else (some false)) else (some false))) else (none)) else (none)))) else (none)) else (none))))) = some r := H
      have A15 := Aside0.mk A150
      clear A150
      replace H := Option.bind_eq_some_iff.mp H
      obtain ⟨⟨t532, t533⟩, A160, H⟩ := H
      replace H : ((fourier_Phase.f kj3 a0 t532 a2).bind fun bt536 => ((fourier_Turn.f kj3 a0 t524 (wrap64 (-a2))).bind fun bt540 => (if 0 ≤ (l1.length : Int) then (if ((l1.length : Int) : Int).toNat ≤ 35184372088832 then ((some (List.replicate ((l1.length : Int) : Int).toNat 0 : List Int)).bind fun y544 => (if (l1.length : Int) = 0 then (none) else (if 0 ≤ (Int.tmod (wrap64 ((Int.tmod a2 (l1.length : Int)) + (l1.length : Int))) (l1.length : Int)) then (if (Int.tmod (wrap64 ((Int.tmod a2 (l1.length : Int)) + (l1.length : Int))) (l1.length : Int)) < (y544.length : Int) then ((fourier_Convolve.f kj3 a0 l1 (y544.set ((Int.tmod (wrap64 ((Int.tmod a2 (l1.length : Int)) + (l1.length : Int))) (l1.length : Int)) : Int).toNat 1)).bind fun bt548 => (if t525 = 0 then (if t529 = 0 then (if t533 = 0 then (if bt536.2 = 0 then ((fringeref10_Same.f kj3 t528 bt536.1).bind fun t552 => (if t552 = true then (if bt540.2 = 0 then ((fringeref10_Same.f kj3 bt540.1 l1).bind fun t553 => (if t553 = true then (if bt548.2 = 0 then ((fringeref10_Same.f kj3 bt548.1 t524).bind fun t554 => (if t554 = true then ((fringelaw11_alive.f).bind fun t555 => (some t555)) else (some false))) else (some false)) else (some false))) else (some false)) else (some false))) else (some false)) else (some false)) else (some false)) else (some false))) else (none)) else (none)))) else (none)) else (none)))) = some r := H
      have A16 := Aside0.mk A160
      clear A160
      replace H := Option.bind_eq_some_iff.mp H
      obtain ⟨⟨t536, t537⟩, A170, H⟩ := H
      replace H : ((fourier_Turn.f kj3 a0 t524 (wrap64 (-a2))).bind fun bt540 => (if 0 ≤ (l1.length : Int) then (if ((l1.length : Int) : Int).toNat ≤ 35184372088832 then ((some (List.replicate ((l1.length : Int) : Int).toNat 0 : List Int)).bind fun y544 => (if (l1.length : Int) = 0 then (none) else (if 0 ≤ (Int.tmod (wrap64 ((Int.tmod a2 (l1.length : Int)) + (l1.length : Int))) (l1.length : Int)) then (if (Int.tmod (wrap64 ((Int.tmod a2 (l1.length : Int)) + (l1.length : Int))) (l1.length : Int)) < (y544.length : Int) then ((fourier_Convolve.f kj3 a0 l1 (y544.set ((Int.tmod (wrap64 ((Int.tmod a2 (l1.length : Int)) + (l1.length : Int))) (l1.length : Int)) : Int).toNat 1)).bind fun bt548 => (if t525 = 0 then (if t529 = 0 then (if t533 = 0 then (if t537 = 0 then ((fringeref10_Same.f kj3 t528 t536).bind fun t552 => (if t552 = true then (if bt540.2 = 0 then ((fringeref10_Same.f kj3 bt540.1 l1).bind fun t553 => (if t553 = true then (if bt548.2 = 0 then ((fringeref10_Same.f kj3 bt548.1 t524).bind fun t554 => (if t554 = true then ((fringelaw11_alive.f).bind fun t555 => (some t555)) else (some false))) else (some false)) else (some false))) else (some false)) else (some false))) else (some false)) else (some false)) else (some false)) else (some false))) else (none)) else (none)))) else (none)) else (none))) = some r := H
      have A17 := Aside0.mk A170
      clear A170
      replace H := Option.bind_eq_some_iff.mp H
      obtain ⟨⟨t540, t541⟩, A180, H⟩ := H
      replace H : (if 0 ≤ (l1.length : Int) then (if ((l1.length : Int) : Int).toNat ≤ 35184372088832 then ((some (List.replicate ((l1.length : Int) : Int).toNat 0 : List Int)).bind fun y544 => (if (l1.length : Int) = 0 then (none) else (if 0 ≤ (Int.tmod (wrap64 ((Int.tmod a2 (l1.length : Int)) + (l1.length : Int))) (l1.length : Int)) then (if (Int.tmod (wrap64 ((Int.tmod a2 (l1.length : Int)) + (l1.length : Int))) (l1.length : Int)) < (y544.length : Int) then ((fourier_Convolve.f kj3 a0 l1 (y544.set ((Int.tmod (wrap64 ((Int.tmod a2 (l1.length : Int)) + (l1.length : Int))) (l1.length : Int)) : Int).toNat 1)).bind fun bt548 => (if t525 = 0 then (if t529 = 0 then (if t533 = 0 then (if t537 = 0 then ((fringeref10_Same.f kj3 t528 t536).bind fun t552 => (if t552 = true then (if t541 = 0 then ((fringeref10_Same.f kj3 t540 l1).bind fun t553 => (if t553 = true then (if bt548.2 = 0 then ((fringeref10_Same.f kj3 bt548.1 t524).bind fun t554 => (if t554 = true then ((fringelaw11_alive.f).bind fun t555 => (some t555)) else (some false))) else (some false)) else (some false))) else (some false)) else (some false))) else (some false)) else (some false)) else (some false)) else (some false))) else (none)) else (none)))) else (none)) else (none)) = some r := H
      have A18 := Aside0.mk A180
      clear A180
      by_cases c19 : 0 ≤ (l1.length : Int)
      rotate_left
      · rw [if_neg c19] at H
        exact absurd H (by simp)

      rw [if_pos c19] at H
      have c19b0 := eq_true c19
      have c19b1 : decide (0 ≤ (l1.length : Int)) = true := decide_eq_true c19
      clear c19
      by_cases c20 : ((l1.length : Int) : Int).toNat ≤ 35184372088832
      rotate_left
      · rw [if_neg c20] at H
        exact absurd H (by simp)
      rw [if_pos c20] at H
      have c20b0 := eq_true c20
      have c20b1 : decide (((l1.length : Int) : Int).toNat ≤ 35184372088832) = true := decide_eq_true c20
      clear c20
      obtain ⟨y544, hy544⟩ : ∃ y_ : List Int, y_ = (List.replicate ((l1.length : Int) : Int).toNat 0) := ⟨_, rfl⟩
      replace H : (if (l1.length : Int) = 0 then (none) else (if 0 ≤ (Int.tmod (wrap64 ((Int.tmod a2 (l1.length : Int)) + (l1.length : Int))) (l1.length : Int)) then (if (Int.tmod (wrap64 ((Int.tmod a2 (l1.length : Int)) + (l1.length : Int))) (l1.length : Int)) < (y544.length : Int) then ((fourier_Convolve.f kj3 a0 l1 (y544.set ((Int.tmod (wrap64 ((Int.tmod a2 (l1.length : Int)) + (l1.length : Int))) (l1.length : Int)) : Int).toNat 1)).bind fun bt548 => (if t525 = 0 then (if t529 = 0 then (if t533 = 0 then (if t537 = 0 then ((fringeref10_Same.f kj3 t528 t536).bind fun t552 => (if t552 = true then (if t541 = 0 then ((fringeref10_Same.f kj3 t540 l1).bind fun t553 => (if t553 = true then (if bt548.2 = 0 then ((fringeref10_Same.f kj3 bt548.1 t524).bind fun t554 => (if t554 = true then ((fringelaw11_alive.f).bind fun t555 => (some t555)) else (some false))) else (some false)) else (some false))) else (some false)) else (some false))) else (some false)) else (some false)) else (some false)) else (some false))) else (none)) else (none))) = some r := by first | (rw [hy544]; with_reducible exact H) | (have H2_ := (Option.bind_some _ _).symm.trans H; rw [hy544]; with_reducible exact H2_) | (have H2_ := (Option.bind_some _ _).symm.trans H; with_reducible exact H2_) | with_reducible exact H | (rw [hy544]; exact H) | exact H
      have Ny544 := Aside0.mk hy544
      clear hy544
      by_cases c21 : (l1.length : Int) = 0
      · rw [if_pos c21] at H
        exact absurd H (by simp)
      rw [if_neg c21] at H
      have c21b0 : ((l1.length : Int) == 0) = false := beq_eq_false_iff_ne.mpr c21
      have c21b1 : ((l1.length : Int) != 0) = true := bne_iff_ne.mpr c21
      have c21b2 : ¬ (l1 = []) := fun h_ => c21 (by rw [h_]; rfl)
      obtain ⟨ji22, hji22⟩ : ∃ j_ : Int, (Int.tmod (wrap64 ((Int.tmod a2 (l1.length : Int)) + (l1.length : Int))) (l1.length : Int)) = j_ := ⟨_, rfl⟩
      replace H : (if 0 ≤ (ji22) then (if (ji22) < (y544.length : Int) then ((fourier_Convolve.f kj3 a0 l1 (y544.set ((ji22) : Int).toNat 1)).bind fun bt548 => (if t525 = 0 then (if t529 = 0 then (if t533 = 0 then (if t537 = 0 then ((fringeref10_Same.f kj3 t528 t536).bind fun t552 => (if t552 = true then (if t541 = 0 then ((fringeref10_Same.f kj3 t540 l1).bind fun t553 => (if t553 = true then (if bt548.2 = 0 then ((fringeref10_Same.f kj3 bt548.1 t524).bind fun t554 => (if t554 = true then ((fringelaw11_alive.f).bind fun t555 => (some t555)) else (some false))) else (some false)) else (some false))) else (some false)) else (some false))) else (some false)) else (some false)) else (some false)) else (some false))) else (none)) else (none)) = some r := by first | (rw [hji22] at H; exact H) | (simp only [hji22] at H ⊢; exact H)
      (try rw [hji22] at A14)
      (try rw [hji22] at A15)
      (try rw [hji22] at A16)
      (try rw [hji22] at A17)
      (try rw [hji22] at A18)
      by_cases c23 : 0 ≤ (ji22)
      rotate_left
      · rw [if_neg c23] at H
        exact absurd H (by simp)
      rw [if_pos c23] at H
      have c23b0 : decide (0 ≤ (ji22)) = true := decide_eq_true c23
      clear c23
      by_cases c24 : (ji22) < (y544.length : Int)
      rotate_left
      · rw [if_neg c24] at H
        exact absurd H (by simp)
      rw [if_pos c24] at H
      have c24b0 : decide ((ji22) < (y544.length : Int)) = true := decide_eq_true c24
      clear c24
      obtain ⟨y547, hy547⟩ : ∃ y_ : List Int, y_ = (y544.set ((ji22) : Int).toNat 1) := ⟨_, rfl⟩
      replace H : ((fourier_Convolve.f kj3 a0 l1 y547).bind fun bt548 => (if t525 = 0 then (if t529 = 0 then (if t533 = 0 then (if t537 = 0 then ((fringeref10_Same.f kj3 t528 t536).bind fun t552 => (if t552 = true then (if t541 = 0 then ((fringeref10_Same.f kj3 t540 l1).bind fun t553 => (if t553 = true then (if bt548.2 = 0 then ((fringeref10_Same.f kj3 bt548.1 t524).bind fun t554 => (if t554 = true then ((fringelaw11_alive.f).bind fun t555 => (some t555)) else (some false))) else (some false)) else (some false))) else (some false)) else (some false))) else (some false)) else (some false)) else (some false)) else (some false))) = some r := by first | (rw [hy547]; with_reducible exact H) | (have H2_ := (Option.bind_some _ _).symm.trans H; rw [hy547]; with_reducible exact H2_) | (have H2_ := (Option.bind_some _ _).symm.trans H; with_reducible exact H2_) | with_reducible exact H | (rw [hy547]; exact H) | exact H
      have Ny547 := Aside0.mk hy547
      clear hy547
      replace H := Option.bind_eq_some_iff.mp H
      obtain ⟨⟨t548, t549⟩, A260, H⟩ := H
      replace H : (if t525 = 0 then (if t529 = 0 then (if t533 = 0 then (if t537 = 0 then ((fringeref10_Same.f kj3 t528 t536).bind fun t552 => (if t552 = true then (if t541 = 0 then ((fringeref10_Same.f kj3 t540 l1).bind fun t553 => (if t553 = true then (if t549 = 0 then ((fringeref10_Same.f kj3 t548 t524).bind fun t554 => (if t554 = true then ((fringelaw11_alive.f).bind fun t555 => (some t555)) else (some false))) else (some false)) else (some false))) else (some false)) else (some false))) else (some false)) else (some false)) else (some false)) else (some false)) = some r := H
      have A26 := Aside0.mk A260
      clear A260
      by_cases c27 : t525 = 0
      rotate_left
      · rw [if_neg c27] at H
        have c27b0 : (t525 == 0) = false := beq_eq_false_iff_ne.mpr c27
        have c27b1 : (t525 != 0) = true := bne_iff_ne.mpr c27
        exact absurd ((Option.some.inj H).trans HRT.out) (by decide)
      rw [if_pos c27] at H
      have c27b0 : (t525 == 0) = true := beq_iff_eq.mpr c27
      have c27b1 : (t525 != 0) = false := bne_eq_false_iff_eq.mpr c27
      clear c27
      by_cases c28 : t529 = 0
      rotate_left
      · rw [if_neg c28] at H
        have c28b0 : (t529 == 0) = false := beq_eq_false_iff_ne.mpr c28
        have c28b1 : (t529 != 0) = true := bne_iff_ne.mpr c28
        exact absurd ((Option.some.inj H).trans HRT.out) (by decide)
      rw [if_pos c28] at H
      have c28b0 : (t529 == 0) = true := beq_iff_eq.mpr c28
      have c28b1 : (t529 != 0) = false := bne_eq_false_iff_eq.mpr c28
      clear c28
      by_cases c29 : t533 = 0
      rotate_left
      · rw [if_neg c29] at H
        have c29b0 : (t533 == 0) = false := beq_eq_false_iff_ne.mpr c29
        have c29b1 : (t533 != 0) = true := bne_iff_ne.mpr c29
        exact absurd ((Option.some.inj H).trans HRT.out) (by decide)
      rw [if_pos c29] at H
      have c29b0 : (t533 == 0) = true := beq_iff_eq.mpr c29
      have c29b1 : (t533 != 0) = false := bne_eq_false_iff_eq.mpr c29
      clear c29
      by_cases c30 : t537 = 0
      rotate_left
      · rw [if_neg c30] at H
        have c30b0 : (t537 == 0) = false := beq_eq_false_iff_ne.mpr c30
        have c30b1 : (t537 != 0) = true := bne_iff_ne.mpr c30
        exact absurd ((Option.some.inj H).trans HRT.out) (by decide)
      rw [if_pos c30] at H
      have c30b0 : (t537 == 0) = true := beq_iff_eq.mpr c30
      have c30b1 : (t537 != 0) = false := bne_eq_false_iff_eq.mpr c30
      clear c30
      replace H := Option.bind_eq_some_iff.mp H
      obtain ⟨t552, A310, H⟩ := H
      replace H : (if t552 = true then (if t541 = 0 then ((fringeref10_Same.f kj3 t540 l1).bind fun t553 => (if t553 = true then (if t549 = 0 then ((fringeref10_Same.f kj3 t548 t524).bind fun t554 => (if t554 = true then ((fringelaw11_alive.f).bind fun t555 => (some t555)) else (some false))) else (some false)) else (some false))) else (some false)) else (some false)) = some r := H
      have A31 := Aside0.mk A310
      clear A310
      by_cases c32 : t552 = true
      rotate_left
      · replace c32 := Bool.eq_false_iff.mpr c32
        subst c32
        have H1 : (some false) = some r := by rw [if_neg (show ¬ (false = true) by decide)] at H; exact H
        clear H
        have H := H1
        clear H1
        exact absurd ((Option.some.inj H).trans HRT.out) (by decide)
      subst c32
      have H1 : (if t541 = 0 then ((fringeref10_Same.f kj3 t540 l1).bind fun t553 => (if t553 = true then (if t549 = 0 then ((fringeref10_Same.f kj3 t548 t524).bind fun t554 => (if t554 = true then ((fringelaw11_alive.f).bind fun t555 => (some t555)) else (some false))) else (some false)) else (some false))) else (some false)) = some r := by rw [if_pos rfl] at H; exact H
      clear H
      have H := H1
      clear H1
      by_cases c33 : t541 = 0
      rotate_left
      · rw [if_neg c33] at H
        have c33b0 : (t541 == 0) = false := beq_eq_false_iff_ne.mpr c33
        have c33b1 : (t541 != 0) = true := bne_iff_ne.mpr c33
        exact absurd ((Option.some.inj H).trans HRT.out) (by decide)
      rw [if_pos c33] at H
      have c33b0 : (t541 == 0) = true := beq_iff_eq.mpr c33
      have c33b1 : (t541 != 0) = false := bne_eq_false_iff_eq.mpr c33
      clear c33
      replace H := Option.bind_eq_some_iff.mp H
      obtain ⟨t553, A340, H⟩ := H
      replace H : (if t553 = true then (if t549 = 0 then ((fringeref10_Same.f kj3 t548 t524).bind fun t554 => (if t554 = true then ((fringelaw11_alive.f).bind fun t555 => (some t555)) else (some false))) else (some false)) else (some false)) = some r := H
      have A34 := Aside0.mk A340
      clear A340
      by_cases c35 : t553 = true
      rotate_left
      · replace c35 := Bool.eq_false_iff.mpr c35
        subst c35
        have H1 : (some false) = some r := by rw [if_neg (show ¬ (false = true) by decide)] at H; exact H
        clear H
        have H := H1
        clear H1
        exact absurd ((Option.some.inj H).trans HRT.out) (by decide)
      subst c35
      have H1 : (if t549 = 0 then ((fringeref10_Same.f kj3 t548 t524).bind fun t554 => (if t554 = true then ((fringelaw11_alive.f).bind fun t555 => (some t555)) else (some false))) else (some false)) = some r := by rw [if_pos rfl] at H; exact H
      clear H
      have H := H1
      clear H1
      by_cases c36 : t549 = 0
      rotate_left
      · rw [if_neg c36] at H
        have c36b0 : (t549 == 0) = false := beq_eq_false_iff_ne.mpr c36
        have c36b1 : (t549 != 0) = true := bne_iff_ne.mpr c36
        exact absurd ((Option.some.inj H).trans HRT.out) (by decide)
      rw [if_pos c36] at H
      have c36b0 : (t549 == 0) = true := beq_iff_eq.mpr c36
      have c36b1 : (t549 != 0) = false := bne_eq_false_iff_eq.mpr c36
      clear c36
      replace H := Option.bind_eq_some_iff.mp H
      obtain ⟨t554, A370, H⟩ := H
      replace H : (if t554 = true then ((fringelaw11_alive.f).bind fun t555 => (some t555)) else (some false)) = some r := H
      have A37 := Aside0.mk A370
      clear A370
      by_cases c38 : t554 = true
      rotate_left
      · replace c38 := Bool.eq_false_iff.mpr c38
        subst c38
        have H1 : (some false) = some r := by rw [if_neg (show ¬ (false = true) by decide)] at H; exact H
        clear H
        have H := H1
        clear H1
        exact absurd ((Option.some.inj H).trans HRT.out) (by decide)
      subst c38
      have H1 : ((fringelaw11_alive.f).bind fun t555 => (some t555)) = some r := by rw [if_pos rfl] at H; exact H
      clear H
      have H := H1
      clear H1
      replace H := Option.bind_eq_some_iff.mp H
      obtain ⟨t555, A390, H⟩ := H
      replace H : (some t555) = some r := H
      have A39 := Aside0.mk A390
      clear A390
      obtain rfl := Option.some.inj H
      go_wp2_with (first | ((with_reducible refine gate_callee (f := 20) rfl ?_); refine goesL_ (some 38) rfl rfl Try.func20 (by kernel_rfl) rfl #[.int .i64 a0, .slice A1 l1.length c1, .int .i64 a2] rfl (by (try simp only [List.map_toArray, List.map_cons, List.map_nil]); first | done | rfl | (simp only [List.length_drop, List.length_take]; rfl)) ?_; (with_reducible refine (fourier_Turn.calls kj3 a0 _ _ l1 a2 t524 t525 _ ?side1 ?side2 A14.out).mono ?_); (case side1 => repeat (first | exact (Kd.C_below HR1.out HB.out) | (with_reducible refine Kd.C_alloc ?_ _) | (with_reducible refine Kd.C_drewN ?_ _) | (with_reducible refine Kd.C_drew ?_))); (case side2 => exact HC1.out); rintro e w40 ⟨v526, rfl, ho0, hb⟩; refine ⟨_, rfl, ?_⟩; have n0_ := Aside0.mk (Kd.R_lower ho0 (below_size (by repeat (first | (with_reducible first | exact HB.out | apply below_alloc | apply pw_below_drewN | apply below_drew1) | exact HB.out)))); have n1_ := Aside0.mk (below_step (by repeat (first | (with_reducible first | exact HB.out | apply below_alloc | apply pw_below_drewN | apply below_drew1) | exact HB.out)) hb); clear HB; have HO527 := n0_; have HB := n1_; clear n0_ n1_; (try clear hb); (try clear hb2); (try clear hk); (try clear hi); (try clear ho0); obtain ⟨Ao41, co41, eo41⟩ := Kd.R_slice HO527.out; subst eo41) | ((with_reducible refine gate_callee (f := 11) rfl ?_); refine goesL_ (some 44) rfl rfl Try.func11 (by kernel_rfl) rfl #[.int .i64 a0, .slice Ao41 t524.length co41] rfl (by (try simp only [List.map_toArray, List.map_cons, List.map_nil]); first | done | rfl | (simp only [List.length_drop, List.length_take]; rfl)) ?_; (with_reducible refine (fourier_Forward.calls kj3 a0 _ _ t524 t528 t529 _ ?side1 ?side2 A15.out).mono ?_); (case side1 => repeat (first | exact (Kd.R_reads' HO527.out).2.2 | (with_reducible refine Kd.C_alloc ?_ _) | (with_reducible refine Kd.C_drewN ?_ _) | (with_reducible refine Kd.C_drew ?_))); (case side2 => exact (Kd.R_reads' HO527.out).2.1); rintro e w42 ⟨v530, rfl, ho0, hb⟩; refine ⟨_, rfl, ?_⟩; have n0_ := Aside0.mk (Kd.R_elder' (by (with_reducible repeat (first | apply Kd.R_alloc | apply Kd.R_drewN | apply Kd.R_drew)); exact HO527.out) (Kd.R_base ho0) hb); have n1_ := Aside0.mk (Kd.R_lower (Kd.R_new' ho0 (Kd.R_lt (by (with_reducible repeat (first | apply Kd.R_alloc | apply Kd.R_drewN | apply Kd.R_drew)); exact HO527.out))) (below_size (by repeat (first | (with_reducible first | exact HB.out | apply below_alloc | apply pw_below_drewN | apply below_drew1) | exact HB.out)))); have n2_ := Aside0.mk (below_step (by repeat (first | (with_reducible first | exact HB.out | apply below_alloc | apply pw_below_drewN | apply below_drew1) | exact HB.out)) hb); clear HO527; clear HB; have HO527 := n0_; have HO531 := n1_; have HB := n2_; clear n0_ n1_ n2_; (try clear hb); (try clear hb2); (try clear hk); (try clear hi); (try clear ho0)) | ((with_reducible refine gate_callee (f := 11) rfl ?_); refine goesL_ (some 50) rfl rfl Try.func11 (by kernel_rfl) rfl #[.int .i64 a0, .slice A1 l1.length c1] rfl (by (try simp only [List.map_toArray, List.map_cons, List.map_nil]); first | done | rfl | (simp only [List.length_drop, List.length_take]; rfl)) ?_; (with_reducible refine (fourier_Forward.calls kj3 a0 _ _ l1 t532 t533 _ ?side1 ?side2 A16.out).mono ?_); (case side1 => repeat (first | exact (Kd.C_below HR1.out HB.out) | (with_reducible refine Kd.C_alloc ?_ _) | (with_reducible refine Kd.C_drewN ?_ _) | (with_reducible refine Kd.C_drew ?_))); (case side2 => exact HC1.out); rintro e w43 ⟨v534, rfl, ho0, hb⟩; refine ⟨_, rfl, ?_⟩; have n0_ := Aside0.mk (Kd.R_elder' (by (with_reducible repeat (first | apply Kd.R_alloc | apply Kd.R_drewN | apply Kd.R_drew)); exact HO527.out) (Kd.R_base ho0) hb); have n1_ := Aside0.mk (Kd.R_elder' (by (with_reducible repeat (first | apply Kd.R_alloc | apply Kd.R_drewN | apply Kd.R_drew)); exact HO531.out) (Kd.R_base ho0) hb); have n2_ := Aside0.mk (Kd.R_lower (Kd.R_new' (Kd.R_new' ho0 (Kd.R_lt (by (with_reducible repeat (first | apply Kd.R_alloc | apply Kd.R_drewN | apply Kd.R_drew)); exact HO527.out))) (Kd.R_lt (by (with_reducible repeat (first | apply Kd.R_alloc | apply Kd.R_drewN | apply Kd.R_drew)); exact HO531.out))) (below_size (by repeat (first | (with_reducible first | exact HB.out | apply below_alloc | apply pw_below_drewN | apply below_drew1) | exact HB.out)))); have n3_ := Aside0.mk (below_step (by repeat (first | (with_reducible first | exact HB.out | apply below_alloc | apply pw_below_drewN | apply below_drew1) | exact HB.out)) hb); clear HO527; clear HO531; clear HB; have HO527 := n0_; have HO531 := n1_; have HO535 := n2_; have HB := n3_; clear n0_ n1_ n2_ n3_; (try clear hb); (try clear hb2); (try clear hk); (try clear hi); (try clear ho0); obtain ⟨Ao44, co44, eo44⟩ := Kd.R_slice HO535.out; subst eo44) | ((with_reducible refine gate_callee (f := 22) rfl ?_); refine goesL_ (some 57) rfl rfl Try.func22 (by kernel_rfl) rfl #[.int .i64 a0, .slice Ao44 t532.length co44, .int .i64 a2] rfl (by (try simp only [List.map_toArray, List.map_cons, List.map_nil]); first | done | rfl | (simp only [List.length_drop, List.length_take]; rfl)) ?_; (with_reducible refine (fourier_Phase.calls kj3 a0 _ _ t532 a2 t536 t537 _ ?side1 ?side2 A17.out).mono ?_); (case side1 => repeat (first | exact (Kd.R_reads' HO535.out).2.2 | (with_reducible refine Kd.C_alloc ?_ _) | (with_reducible refine Kd.C_drewN ?_ _) | (with_reducible refine Kd.C_drew ?_))); (case side2 => exact (Kd.R_reads' HO535.out).2.1); rintro e w45 ⟨v538, rfl, ho0, hb⟩; refine ⟨_, rfl, ?_⟩; have n0_ := Aside0.mk (Kd.R_elder' (by (with_reducible repeat (first | apply Kd.R_alloc | apply Kd.R_drewN | apply Kd.R_drew)); exact HO527.out) (Kd.R_base ho0) hb); have n1_ := Aside0.mk (Kd.R_elder' (by (with_reducible repeat (first | apply Kd.R_alloc | apply Kd.R_drewN | apply Kd.R_drew)); exact HO531.out) (Kd.R_base ho0) hb); have n2_ := Aside0.mk (Kd.R_elder' (by (with_reducible repeat (first | apply Kd.R_alloc | apply Kd.R_drewN | apply Kd.R_drew)); exact HO535.out) (Kd.R_base ho0) hb); have n3_ := Aside0.mk (Kd.R_lower (Kd.R_new' (Kd.R_new' (Kd.R_new' ho0 (Kd.R_lt (by (with_reducible repeat (first | apply Kd.R_alloc | apply Kd.R_drewN | apply Kd.R_drew)); exact HO527.out))) (Kd.R_lt (by (with_reducible repeat (first | apply Kd.R_alloc | apply Kd.R_drewN | apply Kd.R_drew)); exact HO531.out))) (Kd.R_lt (by (with_reducible repeat (first | apply Kd.R_alloc | apply Kd.R_drewN | apply Kd.R_drew)); exact HO535.out))) (below_size (by repeat (first | (with_reducible first | exact HB.out | apply below_alloc | apply pw_below_drewN | apply below_drew1) | exact HB.out)))); have n4_ := Aside0.mk (below_step (by repeat (first | (with_reducible first | exact HB.out | apply below_alloc | apply pw_below_drewN | apply below_drew1) | exact HB.out)) hb); clear HO527; clear HO531; clear HO535; clear HB; have HO527 := n0_; have HO531 := n1_; have HO535 := n2_; have HO539 := n3_; have HB := n4_; clear n0_ n1_ n2_ n3_ n4_; (try clear hb); (try clear hb2); (try clear hk); (try clear hi); (try clear ho0)) | ((with_reducible refine gate_callee (f := 20) rfl ?_); refine goesL_ (some 65) rfl rfl Try.func20 (by kernel_rfl) rfl #[.int .i64 a0, .slice Ao41 t524.length co41, .int .i64 (wrap64 (-a2))] rfl (by (try simp only [List.map_toArray, List.map_cons, List.map_nil]); first | done | rfl | (simp only [List.length_drop, List.length_take]; rfl)) ?_; (with_reducible refine (fourier_Turn.calls kj3 a0 _ _ t524 (wrap64 (-a2)) t540 t541 _ ?side1 ?side2 A18.out).mono ?_); (case side1 => repeat (first | exact (Kd.R_reads' HO527.out).2.2 | (with_reducible refine Kd.C_alloc ?_ _) | (with_reducible refine Kd.C_drewN ?_ _) | (with_reducible refine Kd.C_drew ?_))); (case side2 => exact (Kd.R_reads' HO527.out).2.1); rintro e w46 ⟨v542, rfl, ho0, hb⟩; refine ⟨_, rfl, ?_⟩; have n0_ := Aside0.mk (Kd.R_elder' (by (with_reducible repeat (first | apply Kd.R_alloc | apply Kd.R_drewN | apply Kd.R_drew)); exact HO527.out) (Kd.R_base ho0) hb); have n1_ := Aside0.mk (Kd.R_elder' (by (with_reducible repeat (first | apply Kd.R_alloc | apply Kd.R_drewN | apply Kd.R_drew)); exact HO531.out) (Kd.R_base ho0) hb); have n2_ := Aside0.mk (Kd.R_elder' (by (with_reducible repeat (first | apply Kd.R_alloc | apply Kd.R_drewN | apply Kd.R_drew)); exact HO535.out) (Kd.R_base ho0) hb); have n3_ := Aside0.mk (Kd.R_elder' (by (with_reducible repeat (first | apply Kd.R_alloc | apply Kd.R_drewN | apply Kd.R_drew)); exact HO539.out) (Kd.R_base ho0) hb); have n4_ := Aside0.mk (Kd.R_lower (Kd.R_new' (Kd.R_new' (Kd.R_new' (Kd.R_new' ho0 (Kd.R_lt (by (with_reducible repeat (first | apply Kd.R_alloc | apply Kd.R_drewN | apply Kd.R_drew)); exact HO527.out))) (Kd.R_lt (by (with_reducible repeat (first | apply Kd.R_alloc | apply Kd.R_drewN | apply Kd.R_drew)); exact HO531.out))) (Kd.R_lt (by (with_reducible repeat (first | apply Kd.R_alloc | apply Kd.R_drewN | apply Kd.R_drew)); exact HO535.out))) (Kd.R_lt (by (with_reducible repeat (first | apply Kd.R_alloc | apply Kd.R_drewN | apply Kd.R_drew)); exact HO539.out))) (below_size (by repeat (first | (with_reducible first | exact HB.out | apply below_alloc | apply pw_below_drewN | apply below_drew1) | exact HB.out)))); have n5_ := Aside0.mk (below_step (by repeat (first | (with_reducible first | exact HB.out | apply below_alloc | apply pw_below_drewN | apply below_drew1) | exact HB.out)) hb); clear HO527; clear HO531; clear HO535; clear HO539; clear HB; have HO527 := n0_; have HO531 := n1_; have HO535 := n2_; have HO539 := n3_; have HO543 := n4_; have HB := n5_; clear n0_ n1_ n2_ n3_ n4_ n5_; (try clear hb); (try clear hb2); (try clear hk); (try clear hi); (try clear ho0)) | ((with_reducible refine gate_dst (N := 70) rfl ?_); refine Kd.R_make (Kd.int .i64) _ 2 rfl (N := 70) rfl 22 _ _ rfl (l1.length : Int) rfl rfl Try.underlying22 (.int .i64 0) 8 info2 rfl (by decide) (by omega) 0 (ok := fun _ => True) (okp := fun _ => True) rfl (fun _ hk => hk) trivial (of_decide_eq_true (by first | (with_reducible assumption) | assumption)) (Nat.le_trans (Nat.mul_le_mul_right _ (of_decide_eq_true (by first | (with_reducible assumption) | assumption) : (l1.length : Int).toNat ≤ 35184372088832)) (by omega)) (Below.refl _ _) (Nat.le_refl _) ?_; intro v545 w47 ho48 hb hg_ hnew_; clear hg_ hnew_; (first | rw [← Ny544.out] at ho48 | (simp only [Int.reduceToNat] at ho48; rw [← Ny544.out] at ho48)); have n0_ := Aside0.mk (Kd.R_elder' (by (with_reducible repeat (first | apply Kd.R_alloc | apply Kd.R_drewN | apply Kd.R_drew)); exact HO527.out) (Kd.R_base ho48) hb); have n1_ := Aside0.mk (Kd.R_elder' (by (with_reducible repeat (first | apply Kd.R_alloc | apply Kd.R_drewN | apply Kd.R_drew)); exact HO531.out) (Kd.R_base ho48) hb); have n2_ := Aside0.mk (Kd.R_elder' (by (with_reducible repeat (first | apply Kd.R_alloc | apply Kd.R_drewN | apply Kd.R_drew)); exact HO535.out) (Kd.R_base ho48) hb); have n3_ := Aside0.mk (Kd.R_elder' (by (with_reducible repeat (first | apply Kd.R_alloc | apply Kd.R_drewN | apply Kd.R_drew)); exact HO539.out) (Kd.R_base ho48) hb); have n4_ := Aside0.mk (Kd.R_elder' (by (with_reducible repeat (first | apply Kd.R_alloc | apply Kd.R_drewN | apply Kd.R_drew)); exact HO543.out) (Kd.R_base ho48) hb); have n5_ := Aside0.mk (Kd.R_lower (Kd.R_new' (Kd.R_new' (Kd.R_new' (Kd.R_new' (Kd.R_new' ho48 (Kd.R_lt (by (with_reducible repeat (first | apply Kd.R_alloc | apply Kd.R_drewN | apply Kd.R_drew)); exact HO527.out))) (Kd.R_lt (by (with_reducible repeat (first | apply Kd.R_alloc | apply Kd.R_drewN | apply Kd.R_drew)); exact HO531.out))) (Kd.R_lt (by (with_reducible repeat (first | apply Kd.R_alloc | apply Kd.R_drewN | apply Kd.R_drew)); exact HO535.out))) (Kd.R_lt (by (with_reducible repeat (first | apply Kd.R_alloc | apply Kd.R_drewN | apply Kd.R_drew)); exact HO539.out))) (Kd.R_lt (by (with_reducible repeat (first | apply Kd.R_alloc | apply Kd.R_drewN | apply Kd.R_drew)); exact HO543.out))) (below_size (by repeat (first | (with_reducible first | exact HB.out | apply below_alloc | apply pw_below_drewN | apply below_drew1) | exact HB.out)))); have n6_ := Aside0.mk (below_step (by repeat (first | (with_reducible first | exact HB.out | apply below_alloc | apply pw_below_drewN | apply below_drew1) | exact HB.out)) hb); clear HO527; clear HO531; clear HO535; clear HO539; clear HO543; clear HB; have HO527 := n0_; have HO531 := n1_; have HO535 := n2_; have HO539 := n3_; have HO543 := n4_; have HO546 := n5_; have HB := n6_; clear n0_ n1_ n2_ n3_ n4_ n5_ n6_; clear hb ho48; have p25 : 0 ≤ ((ji22) : Int) := of_decide_eq_true (by first | (with_reducible assumption) | assumption); have q25 : ((ji22) : Int) < ((y544.length : Int) : Int) := of_decide_eq_true (by first | (with_reducible assumption) | assumption); obtain ⟨go25, co25, eo25, gb25, gl25, cl25, HG25⟩ := Kd.R_form HO546.out (by omega); (first | cases eo25 | (injection eo25 with ea_ en_ ec_; (first | subst ea_ | (injection ea_ with ea_; subst ea_)); subst ec_; clear en_)); have GB25 := Aside0.mk gb25; have GG25 := Aside0.mk HG25; clear gb25 gl25 HG25; obtain ⟨hx25_0, hf25_0⟩ := Kd.R_celln 0 HO546.out ((ji22) : Int) p25 q25; replace p25 := eq_true p25; replace q25 := eq_true q25; have n_ := Aside0.mk (Kd.R_mono (ok' := (fun k_ => some k_ ≠ (.slice Ao41 t524.length co41 : Value).ownBlock ∧ some k_ ≠ (v530 : Value).ownBlock ∧ some k_ ≠ (.slice Ao44 t532.length co44 : Value).ownBlock ∧ some k_ ≠ (v538 : Value).ownBlock ∧ some k_ ≠ (v542 : Value).ownBlock)) HO546.out (fun k_ hk => ⟨hk.1.1.1.1.2, ⟨hk.1.1.1.2, ⟨hk.1.1.2, ⟨hk.1.2, hk.2⟩⟩⟩⟩)); clear HO546; have HO546 := n_; clear n_; obtain ⟨hy49_, hz49_⟩ := Kd.R_celln 0 HO546.out ((ji22) : Int) (of_decide_eq_true (by first | (with_reducible assumption) | assumption)) (of_decide_eq_true (by first | (with_reducible assumption) | assumption)); have HP49 := Kd.R_putg HO546.out ((ji22) : Int) 1) | ((with_reducible refine gate_store (t := 2) (p := 82) rfl ?_); refine store_event (t := 2) (p := 82) (v := ?vo_w50) (w1 := (w47.setCell ⟨go25, ((ji22) : Int).toNat, none⟩ (.int .i64 1))) ?hg ?ho ?hn ?hr ?_; (case ho => rfl); (case hg => rfl); (case hn => rfl); (case hr => first | (go_simp; done) | (go_simp; rfl)); intro w50 hw; have hg : w47.grownBy w50 (some go25) := (by rw [hw]; exact HP49.2); have hp_ : Kd.R (Kd.int .i64) 2 w50 w.heap.size (fun k_ => some k_ ≠ (.slice Ao41 t524.length co41 : Value).ownBlock ∧ some k_ ≠ (v530 : Value).ownBlock ∧ some k_ ≠ (.slice Ao44 t532.length co44 : Value).ownBlock ∧ some k_ ≠ (v538 : Value).ownBlock ∧ some k_ ≠ (v542 : Value).ownBlock) (.slice (some ⟨go25, 0, none⟩) y544.length co25) y547 := (by rw [hw, Ny547.out]; exact HP49.1); clear HP49; have n0_ := Aside0.mk (Kd.R_after (v := (.slice (some ⟨go25, 0, none⟩) y544.length co25)) (v1 := (.slice (some ⟨go25, 0, none⟩) y544.length co25)) (ok := (fun k_ => some k_ ≠ (v530 : Value).ownBlock ∧ some k_ ≠ (.slice Ao44 t532.length co44 : Value).ownBlock ∧ some k_ ≠ (v538 : Value).ownBlock ∧ some k_ ≠ (v542 : Value).ownBlock)) (by (with_reducible repeat (first | apply Kd.R_alloc | apply Kd.R_drewN | apply Kd.R_drew)); exact Kd.R_mono HO527.out (fun _ hk => ⟨⟨hk.1.1.1.1.2, ⟨hk.1.1.1.2, ⟨hk.1.1.2, hk.1.2⟩⟩⟩, hk.2⟩)) hg (.inl rfl)); have n1_ := Aside0.mk (Kd.R_after (v := (.slice (some ⟨go25, 0, none⟩) y544.length co25)) (v1 := (.slice (some ⟨go25, 0, none⟩) y544.length co25)) (ok := (fun k_ => some k_ ≠ (.slice Ao41 t524.length co41 : Value).ownBlock ∧ some k_ ≠ (.slice Ao44 t532.length co44 : Value).ownBlock ∧ some k_ ≠ (v538 : Value).ownBlock ∧ some k_ ≠ (v542 : Value).ownBlock)) (by (with_reducible repeat (first | apply Kd.R_alloc | apply Kd.R_drewN | apply Kd.R_drew)); exact Kd.R_mono HO531.out (fun _ hk => ⟨⟨hk.1.1.1.1.2, ⟨hk.1.1.1.2, ⟨hk.1.1.2, hk.1.2⟩⟩⟩, hk.2⟩)) hg (.inl rfl)); have n2_ := Aside0.mk (Kd.R_after (v := (.slice (some ⟨go25, 0, none⟩) y544.length co25)) (v1 := (.slice (some ⟨go25, 0, none⟩) y544.length co25)) (ok := (fun k_ => some k_ ≠ (.slice Ao41 t524.length co41 : Value).ownBlock ∧ some k_ ≠ (v530 : Value).ownBlock ∧ some k_ ≠ (v538 : Value).ownBlock ∧ some k_ ≠ (v542 : Value).ownBlock)) (by (with_reducible repeat (first | apply Kd.R_alloc | apply Kd.R_drewN | apply Kd.R_drew)); exact Kd.R_mono HO535.out (fun _ hk => ⟨⟨hk.1.1.1.1.2, ⟨hk.1.1.1.2, ⟨hk.1.1.2, hk.1.2⟩⟩⟩, hk.2⟩)) hg (.inl rfl)); have n3_ := Aside0.mk (Kd.R_after (v := (.slice (some ⟨go25, 0, none⟩) y544.length co25)) (v1 := (.slice (some ⟨go25, 0, none⟩) y544.length co25)) (ok := (fun k_ => some k_ ≠ (.slice Ao41 t524.length co41 : Value).ownBlock ∧ some k_ ≠ (v530 : Value).ownBlock ∧ some k_ ≠ (.slice Ao44 t532.length co44 : Value).ownBlock ∧ some k_ ≠ (v542 : Value).ownBlock)) (by (with_reducible repeat (first | apply Kd.R_alloc | apply Kd.R_drewN | apply Kd.R_drew)); exact Kd.R_mono HO539.out (fun _ hk => ⟨⟨hk.1.1.1.1.2, ⟨hk.1.1.1.2, ⟨hk.1.1.2, hk.1.2⟩⟩⟩, hk.2⟩)) hg (.inl rfl)); have n4_ := Aside0.mk (Kd.R_after (v := (.slice (some ⟨go25, 0, none⟩) y544.length co25)) (v1 := (.slice (some ⟨go25, 0, none⟩) y544.length co25)) (ok := (fun k_ => some k_ ≠ (.slice Ao41 t524.length co41 : Value).ownBlock ∧ some k_ ≠ (v530 : Value).ownBlock ∧ some k_ ≠ (.slice Ao44 t532.length co44 : Value).ownBlock ∧ some k_ ≠ (v538 : Value).ownBlock)) (by (with_reducible repeat (first | apply Kd.R_alloc | apply Kd.R_drewN | apply Kd.R_drew)); exact Kd.R_mono HO543.out (fun _ hk => ⟨⟨hk.1.1.1.1.2, ⟨hk.1.1.1.2, ⟨hk.1.1.2, hk.1.2⟩⟩⟩, hk.2⟩)) hg (.inl rfl)); have n5_ := Aside0.mk (hp_); have n6_ := Aside0.mk ((by rw [hw]; exact below_set (HB.out) GB25.out : Below w.heap.size w w50)); clear HO527; clear HO531; clear HO535; clear HO539; clear HO543; clear HO546; clear HB; have HO527 := n0_; have HO531 := n1_; have HO535 := n2_; have HO539 := n3_; have HO543 := n4_; have HO546 := n5_; have HB := n6_; clear n0_ n1_ n2_ n3_ n4_ n5_ n6_; clear hg hw hp_) | ((with_reducible refine gate_callee (f := 15) rfl ?_); refine goesL_ (some 87) rfl rfl Try.func15 (by kernel_rfl) rfl #[.int .i64 a0, .slice A1 l1.length c1, .slice (some ⟨go25, 0, none⟩) y547.length co25] rfl (by (try simp only [List.map_toArray, List.map_cons, List.map_nil]); first | done | (rw [show y547.length = y544.length from (Kd.R_reads' HO546.out).1.symm] <;> rfl) | rfl | (simp only [List.length_drop, List.length_take]; rfl)) ?_; (with_reducible refine (fourier_Convolve.calls kj3 a0 _ _ l1 _ _ y547 t548 t549 _ ?side1 ?side2 ?side3 ?side4 A26.out).mono ?_); (case side1 => repeat (first | exact (Kd.C_below HR1.out HB.out) | (with_reducible refine Kd.C_alloc ?_ _) | (with_reducible refine Kd.C_drewN ?_ _) | (with_reducible refine Kd.C_drew ?_))); (case side2 => exact HC1.out); (case side3 => repeat (first | exact (Kd.R_reads' HO546.out).2.2 | (with_reducible refine Kd.C_alloc ?_ _) | (with_reducible refine Kd.C_drewN ?_ _) | (with_reducible refine Kd.C_drew ?_))); (case side4 => rw [show y547.length = y544.length from (Kd.R_reads' HO546.out).1.symm]; exact (Kd.R_reads' HO546.out).2.1); rintro e w51 ⟨v550, rfl, ho0, hb⟩; refine ⟨_, rfl, ?_⟩; have n0_ := Aside0.mk (Kd.R_elder' (by (with_reducible repeat (first | apply Kd.R_alloc | apply Kd.R_drewN | apply Kd.R_drew)); exact HO527.out) (Kd.R_base ho0) hb); have n1_ := Aside0.mk (Kd.R_elder' (by (with_reducible repeat (first | apply Kd.R_alloc | apply Kd.R_drewN | apply Kd.R_drew)); exact HO531.out) (Kd.R_base ho0) hb); have n2_ := Aside0.mk (Kd.R_elder' (by (with_reducible repeat (first | apply Kd.R_alloc | apply Kd.R_drewN | apply Kd.R_drew)); exact HO535.out) (Kd.R_base ho0) hb); have n3_ := Aside0.mk (Kd.R_elder' (by (with_reducible repeat (first | apply Kd.R_alloc | apply Kd.R_drewN | apply Kd.R_drew)); exact HO539.out) (Kd.R_base ho0) hb); have n4_ := Aside0.mk (Kd.R_elder' (by (with_reducible repeat (first | apply Kd.R_alloc | apply Kd.R_drewN | apply Kd.R_drew)); exact HO543.out) (Kd.R_base ho0) hb); have n5_ := Aside0.mk (Kd.R_elder' (by (with_reducible repeat (first | apply Kd.R_alloc | apply Kd.R_drewN | apply Kd.R_drew)); exact HO546.out) (Kd.R_base ho0) hb); have n6_ := Aside0.mk (Kd.R_lower (Kd.R_new' (Kd.R_new' (Kd.R_new' (Kd.R_new' (Kd.R_new' (Kd.R_new' ho0 (Kd.R_lt (by (with_reducible repeat (first | apply Kd.R_alloc | apply Kd.R_drewN | apply Kd.R_drew)); exact HO527.out))) (Kd.R_lt (by (with_reducible repeat (first | apply Kd.R_alloc | apply Kd.R_drewN | apply Kd.R_drew)); exact HO531.out))) (Kd.R_lt (by (with_reducible repeat (first | apply Kd.R_alloc | apply Kd.R_drewN | apply Kd.R_drew)); exact HO535.out))) (Kd.R_lt (by (with_reducible repeat (first | apply Kd.R_alloc | apply Kd.R_drewN | apply Kd.R_drew)); exact HO539.out))) (Kd.R_lt (by (with_reducible repeat (first | apply Kd.R_alloc | apply Kd.R_drewN | apply Kd.R_drew)); exact HO543.out))) (Kd.R_lt (by (with_reducible repeat (first | apply Kd.R_alloc | apply Kd.R_drewN | apply Kd.R_drew)); exact HO546.out))) (below_size (by repeat (first | (with_reducible first | exact HB.out | apply below_alloc | apply pw_below_drewN | apply below_drew1) | exact HB.out)))); have n7_ := Aside0.mk (below_step (by repeat (first | (with_reducible first | exact HB.out | apply below_alloc | apply pw_below_drewN | apply below_drew1) | exact HB.out)) hb); clear HO527; clear HO531; clear HO535; clear HO539; clear HO543; clear HO546; clear HB; have HO527 := n0_; have HO531 := n1_; have HO535 := n2_; have HO539 := n3_; have HO543 := n4_; have HO546 := n5_; have HO551 := n6_; have HB := n7_; clear n0_ n1_ n2_ n3_ n4_ n5_ n6_ n7_; (try clear hb); (try clear hb2); (try clear hk); (try clear hi); (try clear ho0); obtain ⟨Ao52, co52, eo52⟩ := Kd.R_slice HO531.out; subst eo52; obtain ⟨Ao53, co53, eo53⟩ := Kd.R_slice HO539.out; subst eo53) | (go_at_call 19; (with_reducible refine (fringeref10_Same.calls kj3 _ _ t528 _ _ t536 true _ ?side1 ?side2 ?side3 ?side4 A31.out).mono ?_); (case side1 => repeat (first | exact (Kd.R_reads' HO531.out).2.2 | (with_reducible refine Kd.C_alloc ?_ _) | (with_reducible refine Kd.C_drewN ?_ _) | (with_reducible refine Kd.C_drew ?_))); (case side2 => exact (Kd.R_reads' HO531.out).2.1); (case side3 => repeat (first | exact (Kd.R_reads' HO539.out).2.2 | (with_reducible refine Kd.C_alloc ?_ _) | (with_reducible refine Kd.C_drewN ?_ _) | (with_reducible refine Kd.C_drew ?_))); (case side4 => exact (Kd.R_reads' HO539.out).2.1); rintro e w' ⟨rfl, ⟨nd, rfl⟩⟩; obtain ⟨Ao54, co54, eo54⟩ := Kd.R_slice HO543.out; subst eo54) | (go_at_call 19; (with_reducible refine (fringeref10_Same.calls kj3 _ _ t540 _ _ l1 true _ ?side1 ?side2 ?side3 ?side4 A34.out).mono ?_); (case side1 => repeat (first | exact (Kd.R_reads' HO543.out).2.2 | (with_reducible refine Kd.C_alloc ?_ _) | (with_reducible refine Kd.C_drewN ?_ _) | (with_reducible refine Kd.C_drew ?_))); (case side2 => exact (Kd.R_reads' HO543.out).2.1); (case side3 => repeat (first | exact (Kd.C_below HR1.out (by repeat (first | (with_reducible first | exact HB.out | apply below_alloc | apply pw_below_drewN | apply below_drew1) | exact HB.out))) | (with_reducible refine Kd.C_alloc ?_ _) | (with_reducible refine Kd.C_drewN ?_ _) | (with_reducible refine Kd.C_drew ?_))); (case side4 => exact HC1.out); rintro e w' ⟨rfl, ⟨nd, rfl⟩⟩; obtain ⟨Ao55, co55, eo55⟩ := Kd.R_slice HO551.out; subst eo55) | (go_at_call 19; (with_reducible refine (fringeref10_Same.calls kj3 _ _ t548 _ _ t524 true _ ?side1 ?side2 ?side3 ?side4 A37.out).mono ?_); (case side1 => repeat (first | exact (Kd.R_reads' HO551.out).2.2 | (with_reducible refine Kd.C_alloc ?_ _) | (with_reducible refine Kd.C_drewN ?_ _) | (with_reducible refine Kd.C_drew ?_))); (case side2 => exact (Kd.R_reads' HO551.out).2.1); (case side3 => repeat (first | exact (Kd.R_reads' HO527.out).2.2 | (with_reducible refine Kd.C_alloc ?_ _) | (with_reducible refine Kd.C_drewN ?_ _) | (with_reducible refine Kd.C_drew ?_))); (case side4 => exact (Kd.R_reads' HO527.out).2.1); rintro e w' ⟨rfl, ⟨nd, rfl⟩⟩) | (go_at_call 29; (with_reducible refine (fringelaw11_alive.calls  t555 _ A39.out).mono ?_); rintro e w56 ⟨rfl, hb⟩; have n0_ := Aside0.mk (Kd.R_below (by (with_reducible repeat (first | apply Kd.R_alloc | apply Kd.R_drewN | apply Kd.R_drew)); exact HO527.out) hb); have n1_ := Aside0.mk (Kd.R_below (by (with_reducible repeat (first | apply Kd.R_alloc | apply Kd.R_drewN | apply Kd.R_drew)); exact HO531.out) hb); have n2_ := Aside0.mk (Kd.R_below (by (with_reducible repeat (first | apply Kd.R_alloc | apply Kd.R_drewN | apply Kd.R_drew)); exact HO535.out) hb); have n3_ := Aside0.mk (Kd.R_below (by (with_reducible repeat (first | apply Kd.R_alloc | apply Kd.R_drewN | apply Kd.R_drew)); exact HO539.out) hb); have n4_ := Aside0.mk (Kd.R_below (by (with_reducible repeat (first | apply Kd.R_alloc | apply Kd.R_drewN | apply Kd.R_drew)); exact HO543.out) hb); have n5_ := Aside0.mk (Kd.R_below (by (with_reducible repeat (first | apply Kd.R_alloc | apply Kd.R_drewN | apply Kd.R_drew)); exact HO546.out) hb); have n6_ := Aside0.mk (Kd.R_below (by (with_reducible repeat (first | apply Kd.R_alloc | apply Kd.R_drewN | apply Kd.R_drew)); exact HO551.out) hb); have n7_ := Aside0.mk (below_step (by repeat (first | (with_reducible first | exact HB.out | apply below_alloc | apply pw_below_drewN | apply below_drew1) | exact HB.out)) hb); clear HO527; clear HO531; clear HO535; clear HO539; clear HO543; clear HO546; clear HO551; clear HB; have HO527 := n0_; have HO531 := n1_; have HO535 := n2_; have HO539 := n3_; have HO543 := n4_; have HO546 := n5_; have HO551 := n6_; have HB := n7_; clear n0_ n1_ n2_ n3_ n4_ n5_ n6_ n7_; (try clear hb); (try clear hb2); (try clear hk); (try clear hi)))
      go_ret
      exact ⟨by first | rfl | (simp [errW_none, errW_some] <;> rfl) | (simp only [← hji22]; first | rfl | (simp [errW_none, errW_some] <;> rfl)) | (simp [*, errW_none, errW_some] <;> rfl), by repeat (first | (with_reducible first | exact HB.out | apply below_alloc | apply pw_below_drewN | apply below_drew1) | exact HB.out)⟩
/-- THE ONE PURE STATEMENT of fringelaw11_FourierShifts: yours. -/
def fringelaw11_FourierShifts.Pure : Prop := ∀ (a0 : Int) (l1 : List Int) (a2 : Int), (Lit.int .i64 a0).wf = true → l1.length ≤ maxLen → l1.length * 8 ≤ 140737488351232 → (∀ x ∈ l1, (Lit.int .i64 x).wf = true) → (Lit.int .i64 a2).wf = true → ∃ k, fringelaw11_FourierShifts.f k a0 l1 a2 = some true
theorem fringelaw11_FourierShifts.walk (P : fringelaw11_FourierShifts.Pure) (a0 : Int) (a1 : Option Addr) (len1 cap1 : Nat) (z1 : List Int) (a2 : Int) (w : World) (w0 : (Lit.int .i64 a0).wf = true) (w1 : (a1 = none ∧ len1 = 0 ∧ cap1 = 0 ∧ z1 = []) ∨ ∃ x, a1 = some x ∧ len1 ≤ cap1 ∧ cap1 ≤ maxLen ∧ z1.length = cap1 ∧ (∀ i, i < z1.length → w.cell? (x.add i) = some (.int .i64 (z1.getD i 0))) ∧ ∀ n ∈ z1, (Lit.int .i64 n).wf = true) (y1 : len1 * 8 ≤ 140737488351232) (w2 : (Lit.int .i64 a2).wf = true) :
    Calls Try.prog 8 #[.int .i64 a0, .slice a1 len1 cap1, .int .i64 a2] w fun e w' => e = .returned (.bool true) ∧ Below w.heap.size w w' := by
  obtain ⟨l1, rfl, hr1, hm1, hw1, hc1⟩ := ReadsInt.ofRowC w1
  obtain ⟨k, h⟩ := P a0 l1 a2 w0 hm1 y1 hw1 w2
  refine (fringelaw11_FourierShifts.calls k a0 _ _ l1 a2 true w (Kd.C_of_reads (d := (0 : Int)) (h1 := fun _ => rfl) hr1) hc1 rfl h).mono ?_
  rintro e w' ⟨rfl, hd⟩
  exact ⟨rfl, hd⟩

end Go.Proofs.Ytbeidonfmeengaa.PAll
