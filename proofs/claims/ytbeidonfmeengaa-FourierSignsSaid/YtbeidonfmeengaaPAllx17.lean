-- Written by a program of this session, after the kit's print
import Derived.Test.YtbeidonfmeengaaPAllx0
import Derived.Test.YtbeidonfmeengaaPAllx2
import Derived.Test.YtbeidonfmeengaaPAllx5
import Derived.Test.YtbeidonfmeengaaPAllx7
import Derived.Test.YtbeidonfmeengaaPAllx9
import Derived.Test.YtbeidonfmeengaaPAllx11
namespace Go.Proofs.Ytbeidonfmeengaa.PAll
open Go.RowKit Go.Proofs.YtbeidonfmeengaaW.PrintWords Go.Proofs.YtbeidonfmeengaaW.PrintLast Go.Proofs.YtbeidonfmeengaaW.PrintMore
attribute [local go_sem] max2_int min2_int max_two min_two max_three min_three max_four min_four   -- for this text's walks alone
set_option linter.unusedVariables false
set_option linter.unusedSimpArgs false

/-! ### fringelaw11_FourierSigns: function 7 -/
mutual
def fringelaw11_FourierSigns.j0 : Nat → Int → List Int → Bool → Option (Bool)
  | 0, _, _, _ => none
  | k + 1, x0, x5, x46 => if x46 = true then (some false) else (fringelaw11_FourierSigns.l0 k x0 x5 0)
def fringelaw11_FourierSigns.l0 : Nat → Int → List Int → Int → Option (Bool)
  | 0, _, _, _ => none
  | k + 1, x0, x5, x9 => if x9 < (x5.length : Int) then (if 0 ≤ x9 then (if (wrap64 (2 * (rd x5 x9))) > x0 then (some false) else (if (wrap64 ((-2) * (rd x5 x9))) ≥ x0 then (some false) else (fringelaw11_FourierSigns.l0 k x0 x5 (wrap64 (x9 + 1))))) else (none)) else ((fringelaw11_alive.f).bind fun t521 => (some t521))
end
def fringelaw11_FourierSigns.f (k : Nat) (a0 : Int) (l1 : List Int) : Option (Bool) := (fringelaw11_fit.f k a0 l1 l1).bind fun t508 => (if t508 = true then ((fourier_Signed.f k a0 l1).bind fun bt510 => ((fourier_Reduce.f k a0 bt510.1).bind fun bt514 => (if bt510.2 = 0 then (if bt514.2 = 0 then ((fringeref10_Same.f k bt514.1 l1).bind fun t518 => (if t518 = true then (fringelaw11_FourierSigns.j0 k a0 bt510.1 ((bt510.1.length : Int) != (l1.length : Int))) else (fringelaw11_FourierSigns.j0 k a0 bt510.1 true))) else (fringelaw11_FourierSigns.j0 k a0 bt510.1 true)) else (fringelaw11_FourierSigns.j0 k a0 bt510.1 true)))) else ((fringelaw11_alive.f).bind fun t509 => (some t509)))
theorem fringelaw11_FourierSigns.mono_l : ∀ k, (∀ y0 y1 y2, LeO (fringelaw11_FourierSigns.j0 k y0 y1 y2) (fringelaw11_FourierSigns.j0 (k + 1) y0 y1 y2)) ∧ (∀ y0 y1 y2, LeO (fringelaw11_FourierSigns.l0 k y0 y1 y2) (fringelaw11_FourierSigns.l0 (k + 1) y0 y1 y2))
  | 0 => ⟨fun _ _ _ r h => by simp [fringelaw11_FourierSigns.j0] at h, fun _ _ _ r h => by simp [fringelaw11_FourierSigns.l0] at h⟩
  | k + 1 => by
    obtain ⟨ih0, ih1⟩ := fringelaw11_FourierSigns.mono_l k
    refine ⟨?_, ?_⟩
    · intro y0 y1 y2
      unfold fringelaw11_FourierSigns.j0
      repeat' first
      | (with_reducible exact ih0 _ _ _)
      | (with_reducible exact ih1 _ _ _)
      | (with_reducible exact fourier_Reduce.mono _ _ _)
      | (with_reducible exact fourier_Signed.mono _ _ _)
      | (with_reducible exact fringelaw11_fit.mono _ _ _ _)
      | (with_reducible exact fringeref10_Same.mono _ _ _)
      | (with_reducible exact LeO.refl _)
      | (with_reducible exact LeO.none _)
      | (with_reducible refine LeO.ite ?_ ?_)
      | (with_reducible refine LeO.bind ?_ (fun _ => ?_))
      | exact ih0 _ _ _
      | exact ih1 _ _ _
      | exact fourier_Reduce.mono _ _ _
      | exact fourier_Signed.mono _ _ _
      | exact fringelaw11_fit.mono _ _ _ _
      | exact fringeref10_Same.mono _ _ _
      | exact LeO.none _
      | refine LeO.ite ?_ ?_
      | refine LeO.bind ?_ (fun _ => ?_)
    · intro y0 y1 y2
      unfold fringelaw11_FourierSigns.l0
      repeat' first
      | (with_reducible exact ih0 _ _ _)
      | (with_reducible exact ih1 _ _ _)
      | (with_reducible exact fourier_Reduce.mono _ _ _)
      | (with_reducible exact fourier_Signed.mono _ _ _)
      | (with_reducible exact fringelaw11_fit.mono _ _ _ _)
      | (with_reducible exact fringeref10_Same.mono _ _ _)
      | (with_reducible exact LeO.refl _)
      | (with_reducible exact LeO.none _)
      | (with_reducible refine LeO.ite ?_ ?_)
      | (with_reducible refine LeO.bind ?_ (fun _ => ?_))
      | exact ih0 _ _ _
      | exact ih1 _ _ _
      | exact fourier_Reduce.mono _ _ _
      | exact fourier_Signed.mono _ _ _
      | exact fringelaw11_fit.mono _ _ _ _
      | exact fringeref10_Same.mono _ _ _
      | exact LeO.none _
      | refine LeO.ite ?_ ?_
      | refine LeO.bind ?_ (fun _ => ?_)
theorem fringelaw11_FourierSigns.mono : ∀ a0 a1 k, LeO (fringelaw11_FourierSigns.f k a0 a1) (fringelaw11_FourierSigns.f (k + 1) a0 a1) := by
  intro a0 a1 k
  obtain ⟨ih0, ih1⟩ := fringelaw11_FourierSigns.mono_l k
  unfold fringelaw11_FourierSigns.f
  repeat' first
      | (with_reducible exact ih0 _ _ _)
      | (with_reducible exact ih1 _ _ _)
      | (with_reducible exact fourier_Reduce.mono _ _ _)
      | (with_reducible exact fourier_Signed.mono _ _ _)
      | (with_reducible exact fringelaw11_fit.mono _ _ _ _)
      | (with_reducible exact fringeref10_Same.mono _ _ _)
      | (with_reducible exact LeO.refl _)
      | (with_reducible exact LeO.none _)
      | (with_reducible refine LeO.ite ?_ ?_)
      | (with_reducible refine LeO.bind ?_ (fun _ => ?_))
      | exact ih0 _ _ _
      | exact ih1 _ _ _
      | exact fourier_Reduce.mono _ _ _
      | exact fourier_Signed.mono _ _ _
      | exact fringelaw11_fit.mono _ _ _ _
      | exact fringeref10_Same.mono _ _ _
      | exact LeO.none _
      | refine LeO.ite ?_ ?_
      | refine LeO.bind ?_ (fun _ => ?_)
set_option maxHeartbeats 8000000 in
set_option maxRecDepth 100000 in
theorem fringelaw11_FourierSigns.calls (k : Nat) (a0 : Int) (A1 : Option Addr) (c1 : Nat) (l1 : List Int) (r : Bool) (w : World) (hr1 : Kd.C (Kd.int .i64) w A1 l1.length l1) (hc1 : l1.length ≤ c1) (hrt : r = true) (h : fringelaw11_FourierSigns.f k a0 l1 = some r) :
    Calls Try.prog 7 #[.int .i64 a0, .slice A1 l1.length c1] w fun e w' => e = .returned (.bool r) ∧ Below w.heap.size w w' := by
  have HR1 := Aside0.mk hr1
  have HC1 := Aside0.mk hc1
  clear hr1 hc1
  have HB := Aside0.mk (Below.refl w.heap.size w)
  have HRT := Aside0.mk hrt
  clear hrt
  have H : ((fringelaw11_fit.f k a0 l1 l1).bind fun t508 => (if t508 = true then ((fourier_Signed.f k a0 l1).bind fun bt510 => ((fourier_Reduce.f k a0 bt510.1).bind fun bt514 => (if bt510.2 = 0 then (if bt514.2 = 0 then ((fringeref10_Same.f k bt514.1 l1).bind fun t518 => (if t518 = true then (fringelaw11_FourierSigns.j0 k a0 bt510.1 ((bt510.1.length : Int) != (l1.length : Int))) else (fringelaw11_FourierSigns.j0 k a0 bt510.1 true))) else (fringelaw11_FourierSigns.j0 k a0 bt510.1 true)) else (fringelaw11_FourierSigns.j0 k a0 bt510.1 true)))) else ((fringelaw11_alive.f).bind fun t509 => (some t509)))) = some r := h
  clear h
  replace H := Option.bind_eq_some_iff.mp H
  obtain ⟨t508, A30, H⟩ := H
  replace H : (if t508 = true then ((fourier_Signed.f k a0 l1).bind fun bt510 => ((fourier_Reduce.f k a0 bt510.1).bind fun bt514 => (if bt510.2 = 0 then (if bt514.2 = 0 then ((fringeref10_Same.f k bt514.1 l1).bind fun t518 => (if t518 = true then (fringelaw11_FourierSigns.j0 k a0 bt510.1 ((bt510.1.length : Int) != (l1.length : Int))) else (fringelaw11_FourierSigns.j0 k a0 bt510.1 true))) else (fringelaw11_FourierSigns.j0 k a0 bt510.1 true)) else (fringelaw11_FourierSigns.j0 k a0 bt510.1 true)))) else ((fringelaw11_alive.f).bind fun t509 => (some t509))) = some r := H
  have A3 := Aside0.mk A30
  clear A30
  by_cases c4 : t508 = true
  rotate_left
  · replace c4 := Bool.eq_false_iff.mpr c4
    subst c4
    have H1 : ((fringelaw11_alive.f).bind fun t509 => (some t509)) = some r := by rw [if_neg (show ¬ (false = true) by decide)] at H; exact H
    clear H
    have H := H1
    clear H1
    replace H := Option.bind_eq_some_iff.mp H
    obtain ⟨t509, A250, H⟩ := H
    replace H : (some t509) = some r := H
    have A25 := Aside0.mk A250
    clear A250
    obtain rfl := Option.some.inj H
    go_enter Try.func7, Try.ntmps7
    go_wp2_with (first | ((with_reducible refine gate_callee (f := 28) rfl ?_); refine goesL_ (some 13) rfl rfl Try.func28 (by kernel_rfl) rfl #[.int .i64 a0, .slice A1 l1.length c1, .slice A1 l1.length c1] rfl (by (try simp only [List.map_toArray, List.map_cons, List.map_nil]); first | done | rfl | (simp only [List.length_drop, List.length_take]; rfl)) ?_; (with_reducible refine (fringelaw11_fit.calls k a0 _ _ l1 _ _ l1 false _ ?side1 ?side2 ?side3 ?side4 A3.out).mono ?_); (case side1 => repeat (first | exact HR1.out | (with_reducible refine Kd.C_alloc ?_ _) | (with_reducible refine Kd.C_drewN ?_ _) | (with_reducible refine Kd.C_drew ?_))); (case side2 => exact HC1.out); (case side3 => repeat (first | exact HR1.out | (with_reducible refine Kd.C_alloc ?_ _) | (with_reducible refine Kd.C_drewN ?_ _) | (with_reducible refine Kd.C_drew ?_))); (case side4 => exact HC1.out); rintro e w26 ⟨rfl, hb⟩; refine ⟨_, rfl, ?_⟩; have n0_ := Aside0.mk (below_step (by repeat (first | (with_reducible first | exact HB.out | apply below_alloc | apply pw_below_drewN | apply below_drew1) | exact HB.out)) hb); clear HB; have HB := n0_; clear n0_; (try clear hb); (try clear hb2); (try clear hk); (try clear hi)) | ((with_reducible refine gate_callee (f := 29) rfl ?_); refine goesL_ (some 15) rfl rfl Try.func29 (by kernel_rfl) rfl #[] rfl (by (try simp only [List.map_toArray, List.map_cons, List.map_nil]); first | done | rfl | (simp only [List.length_drop, List.length_take]; rfl)) ?_; (with_reducible refine (fringelaw11_alive.calls  t509 _ A25.out).mono ?_); rintro e w27 ⟨rfl, hb⟩; refine ⟨_, rfl, ?_⟩; have n0_ := Aside0.mk (below_step (by repeat (first | (with_reducible first | exact HB.out | apply below_alloc | apply pw_below_drewN | apply below_drew1) | exact HB.out)) hb); clear HB; have HB := n0_; clear n0_; (try clear hb); (try clear hb2); (try clear hk); (try clear hi)))
    go_ret
    exact ⟨by first | rfl | (simp [errW_none, errW_some] <;> rfl) | (simp [*, errW_none, errW_some] <;> rfl), by repeat (first | (with_reducible first | exact HB.out | apply below_alloc | apply pw_below_drewN | apply below_drew1) | exact HB.out)⟩

  subst c4
  have H1 : ((fourier_Signed.f k a0 l1).bind fun bt510 => ((fourier_Reduce.f k a0 bt510.1).bind fun bt514 => (if bt510.2 = 0 then (if bt514.2 = 0 then ((fringeref10_Same.f k bt514.1 l1).bind fun t518 => (if t518 = true then (fringelaw11_FourierSigns.j0 k a0 bt510.1 ((bt510.1.length : Int) != (l1.length : Int))) else (fringelaw11_FourierSigns.j0 k a0 bt510.1 true))) else (fringelaw11_FourierSigns.j0 k a0 bt510.1 true)) else (fringelaw11_FourierSigns.j0 k a0 bt510.1 true)))) = some r := by rw [if_pos rfl] at H; exact H
  clear H
  have H := H1
  clear H1
  replace H := Option.bind_eq_some_iff.mp H
  obtain ⟨⟨t510, t511⟩, A50, H⟩ := H
  replace H : ((fourier_Reduce.f k a0 t510).bind fun bt514 => (if t511 = 0 then (if bt514.2 = 0 then ((fringeref10_Same.f k bt514.1 l1).bind fun t518 => (if t518 = true then (fringelaw11_FourierSigns.j0 k a0 t510 ((t510.length : Int) != (l1.length : Int))) else (fringelaw11_FourierSigns.j0 k a0 t510 true))) else (fringelaw11_FourierSigns.j0 k a0 t510 true)) else (fringelaw11_FourierSigns.j0 k a0 t510 true))) = some r := H
  have A5 := Aside0.mk A50
  clear A50
  replace H := Option.bind_eq_some_iff.mp H
  obtain ⟨⟨t514, t515⟩, A60, H⟩ := H
  replace H : (if t511 = 0 then (if t515 = 0 then ((fringeref10_Same.f k t514 l1).bind fun t518 => (if t518 = true then (fringelaw11_FourierSigns.j0 k a0 t510 ((t510.length : Int) != (l1.length : Int))) else (fringelaw11_FourierSigns.j0 k a0 t510 true))) else (fringelaw11_FourierSigns.j0 k a0 t510 true)) else (fringelaw11_FourierSigns.j0 k a0 t510 true)) = some r := H
  have A6 := Aside0.mk A60
  clear A60
  have HC7 := Aside0.mk H
  clear H
  go_enter Try.func7, Try.ntmps7
  go_upto_region 5 with (first | ((with_reducible refine gate_callee (f := 28) rfl ?_); refine goesL_ (some 13) rfl rfl Try.func28 (by kernel_rfl) rfl #[.int .i64 a0, .slice A1 l1.length c1, .slice A1 l1.length c1] rfl (by (try simp only [List.map_toArray, List.map_cons, List.map_nil]); first | done | rfl | (simp only [List.length_drop, List.length_take]; rfl)) ?_; (with_reducible refine (fringelaw11_fit.calls k a0 _ _ l1 _ _ l1 true _ ?side1 ?side2 ?side3 ?side4 A3.out).mono ?_); (case side1 => repeat (first | exact HR1.out | (with_reducible refine Kd.C_alloc ?_ _) | (with_reducible refine Kd.C_drewN ?_ _) | (with_reducible refine Kd.C_drew ?_))); (case side2 => exact HC1.out); (case side3 => repeat (first | exact HR1.out | (with_reducible refine Kd.C_alloc ?_ _) | (with_reducible refine Kd.C_drewN ?_ _) | (with_reducible refine Kd.C_drew ?_))); (case side4 => exact HC1.out); rintro e w8 ⟨rfl, hb⟩; refine ⟨_, rfl, ?_⟩; have n0_ := Aside0.mk (below_step (by repeat (first | (with_reducible first | exact HB.out | apply below_alloc | apply pw_below_drewN | apply below_drew1) | exact HB.out)) hb); clear HB; have HB := n0_; clear n0_; (try clear hb); (try clear hb2); (try clear hk); (try clear hi)) | ((with_reducible refine gate_callee (f := 24) rfl ?_); refine goesL_ (some 19) rfl rfl Try.func24 (by kernel_rfl) rfl #[.int .i64 a0, .slice A1 l1.length c1] rfl (by (try simp only [List.map_toArray, List.map_cons, List.map_nil]); first | done | rfl | (simp only [List.length_drop, List.length_take]; rfl)) ?_; (with_reducible refine (fourier_Signed.calls k a0 _ _ l1 t510 t511 _ ?side1 ?side2 A5.out).mono ?_); (case side1 => repeat (first | exact (Kd.C_below HR1.out HB.out) | (with_reducible refine Kd.C_alloc ?_ _) | (with_reducible refine Kd.C_drewN ?_ _) | (with_reducible refine Kd.C_drew ?_))); (case side2 => exact HC1.out); rintro e w9 ⟨v512, rfl, ho0, hb⟩; refine ⟨_, rfl, ?_⟩; have n0_ := Aside0.mk (Kd.R_lower ho0 (below_size (by repeat (first | (with_reducible first | exact HB.out | apply below_alloc | apply pw_below_drewN | apply below_drew1) | exact HB.out)))); have n1_ := Aside0.mk (below_step (by repeat (first | (with_reducible first | exact HB.out | apply below_alloc | apply pw_below_drewN | apply below_drew1) | exact HB.out)) hb); clear HB; have HO513 := n0_; have HB := n1_; clear n0_ n1_; (try clear hb); (try clear hb2); (try clear hk); (try clear hi); (try clear ho0); obtain ⟨Ao10, co10, eo10⟩ := Kd.R_slice HO513.out; subst eo10) | ((with_reducible refine gate_callee (f := 26) rfl ?_); refine goesL_ (some 25) rfl rfl Try.func26 (by kernel_rfl) rfl #[.int .i64 a0, .slice Ao10 t510.length co10] rfl (by (try simp only [List.map_toArray, List.map_cons, List.map_nil]); first | done | rfl | (simp only [List.length_drop, List.length_take]; rfl)) ?_; (with_reducible refine (fourier_Reduce.calls k a0 _ _ t510 t514 t515 _ ?side1 ?side2 A6.out).mono ?_); (case side1 => repeat (first | exact (Kd.R_reads' HO513.out).2.2 | (with_reducible refine Kd.C_alloc ?_ _) | (with_reducible refine Kd.C_drewN ?_ _) | (with_reducible refine Kd.C_drew ?_))); (case side2 => exact (Kd.R_reads' HO513.out).2.1); rintro e w11 ⟨v516, rfl, ho0, hb⟩; refine ⟨_, rfl, ?_⟩; have n0_ := Aside0.mk (Kd.R_elder' (by (with_reducible repeat (first | apply Kd.R_alloc | apply Kd.R_drewN | apply Kd.R_drew)); exact HO513.out) (Kd.R_base ho0) hb); have n1_ := Aside0.mk (Kd.R_lower (Kd.R_new' ho0 (Kd.R_lt (by (with_reducible repeat (first | apply Kd.R_alloc | apply Kd.R_drewN | apply Kd.R_drew)); exact HO513.out))) (below_size (by repeat (first | (with_reducible first | exact HB.out | apply below_alloc | apply pw_below_drewN | apply below_drew1) | exact HB.out)))); have n2_ := Aside0.mk (below_step (by repeat (first | (with_reducible first | exact HB.out | apply below_alloc | apply pw_below_drewN | apply below_drew1) | exact HB.out)) hb); clear HO513; clear HB; have HO513 := n0_; have HO517 := n1_; have HB := n2_; clear n0_ n1_ n2_; (try clear hb); (try clear hb2); (try clear hk); (try clear hi); (try clear ho0)))
  (try simp only [Act.put, List.setIfInBounds_toArray, List.set_cons_zero, List.set_cons_succ])
  go_cut [46] (fun v46 wc => ∃ (kq : Nat) (x46_6 : Bool), v46 = .bool x46_6 ∧ Aside0 (fringelaw11_FourierSigns.j0 kq a0 t510 x46_6 = some r) ∧ Aside0 (kq ≤ k) ∧ Aside0 (Kd.R (Kd.int .i64) 2 wc w.heap.size (fun _ => True) (.slice Ao10 t510.length co10) t510) ∧ Aside0 (Below w.heap.size w wc))
  case first =>
    have H := HC7.out
    clear HC7
    by_cases c12 : t511 = 0
    rotate_left
    · rw [if_neg c12] at H
      have c12b0 : (t511 == 0) = false := beq_eq_false_iff_ne.mpr c12
      have c12b1 : (t511 != 0) = true := bne_iff_ne.mpr c12
      (first | rw [c12b0] | (simp only [i64_w, i32_w]; rw [c12b0]) | skip)
      have H' := Aside0.mk H
      clear H
      go_wp2
      go_meet
      case rel => exact ⟨_, (true), (by first | rfl | (simp; done) | (simp [*]; done) | (simp [i64_w]; done)), H', ⟨by first | omega | exact Nat.le_refl _⟩, ⟨by (with_reducible repeat (first | apply Kd.R_alloc | apply Kd.R_drewN | apply Kd.R_drew)); exact Kd.R_mono HO513.out (fun _ hk => trivial)⟩, ⟨by repeat (first | (with_reducible first | exact HB.out | apply below_alloc | apply pw_below_drewN | apply below_drew1) | exact HB.out)⟩⟩
    rw [if_pos c12] at H
    have c12b0 : (t511 == 0) = true := beq_iff_eq.mpr c12
    have c12b1 : (t511 != 0) = false := bne_eq_false_iff_eq.mpr c12
    clear c12
    (first | rw [c12b0] | (simp only [i64_w, i32_w]; rw [c12b0]) | skip)
    by_cases c13 : t515 = 0
    rotate_left
    · rw [if_neg c13] at H
      have c13b0 : (t515 == 0) = false := beq_eq_false_iff_ne.mpr c13
      have c13b1 : (t515 != 0) = true := bne_iff_ne.mpr c13
      have H' := Aside0.mk H
      clear H
      go_wp2
      go_meet
      case rel => exact ⟨_, (true), (by first | rfl | (simp; done) | (simp [*]; done) | (simp [i64_w]; done)), H', ⟨by first | omega | exact Nat.le_refl _⟩, ⟨by (with_reducible repeat (first | apply Kd.R_alloc | apply Kd.R_drewN | apply Kd.R_drew)); exact Kd.R_mono HO513.out (fun _ hk => trivial)⟩, ⟨by repeat (first | (with_reducible first | exact HB.out | apply below_alloc | apply pw_below_drewN | apply below_drew1) | exact HB.out)⟩⟩
    rw [if_pos c13] at H
    have c13b0 : (t515 == 0) = true := beq_iff_eq.mpr c13
    have c13b1 : (t515 != 0) = false := bne_eq_false_iff_eq.mpr c13
    clear c13
    replace H := Option.bind_eq_some_iff.mp H
    obtain ⟨t518, A140, H⟩ := H
    replace H : (if t518 = true then (fringelaw11_FourierSigns.j0 k a0 t510 ((t510.length : Int) != (l1.length : Int))) else (fringelaw11_FourierSigns.j0 k a0 t510 true)) = some r := H
    have A14 := Aside0.mk A140
    clear A140
    by_cases c15 : t518 = true
    · subst c15
      have H1 : (fringelaw11_FourierSigns.j0 k a0 t510 ((t510.length : Int) != (l1.length : Int))) = some r := by rw [if_pos rfl] at H; exact H
      clear H
      have H := H1
      clear H1
      have H' := Aside0.mk H
      clear H
      obtain ⟨Ao16, co16, eo16⟩ := Kd.R_slice HO517.out
      subst eo16
      go_wp2_with (first | (go_at_call 19; (with_reducible refine (fringeref10_Same.calls k _ _ t514 _ _ l1 true _ ?side1 ?side2 ?side3 ?side4 A14.out).mono ?_); (case side1 => repeat (first | exact (Kd.R_reads' HO517.out).2.2 | (with_reducible refine Kd.C_alloc ?_ _) | (with_reducible refine Kd.C_drewN ?_ _) | (with_reducible refine Kd.C_drew ?_))); (case side2 => exact (Kd.R_reads' HO517.out).2.1); (case side3 => repeat (first | exact (Kd.C_below HR1.out HB.out) | (with_reducible refine Kd.C_alloc ?_ _) | (with_reducible refine Kd.C_drewN ?_ _) | (with_reducible refine Kd.C_drew ?_))); (case side4 => exact HC1.out); rintro e w' ⟨rfl, ⟨nd, rfl⟩⟩))
      go_meet
      case rel => exact ⟨_, (((t510.length : Int) != (l1.length : Int))), (by first | rfl | (simp; done) | (simp [*]; done) | (simp [i64_w]; done)), H', ⟨by first | omega | exact Nat.le_refl _⟩, ⟨by (with_reducible repeat (first | apply Kd.R_alloc | apply Kd.R_drewN | apply Kd.R_drew)); exact Kd.R_mono HO513.out (fun _ hk => trivial)⟩, ⟨by repeat (first | (with_reducible first | exact HB.out | apply below_alloc | apply pw_below_drewN | apply below_drew1) | exact HB.out)⟩⟩
    replace c15 := Bool.eq_false_iff.mpr c15
    subst c15
    have H1 : (fringelaw11_FourierSigns.j0 k a0 t510 true) = some r := by rw [if_neg (show ¬ (false = true) by decide)] at H; exact H
    clear H
    have H := H1
    clear H1
    have H' := Aside0.mk H
    clear H
    obtain ⟨Ao17, co17, eo17⟩ := Kd.R_slice HO517.out
    subst eo17
    go_wp2_with (first | (go_at_call 19; (with_reducible refine (fringeref10_Same.calls k _ _ t514 _ _ l1 false _ ?side1 ?side2 ?side3 ?side4 A14.out).mono ?_); (case side1 => repeat (first | exact (Kd.R_reads' HO517.out).2.2 | (with_reducible refine Kd.C_alloc ?_ _) | (with_reducible refine Kd.C_drewN ?_ _) | (with_reducible refine Kd.C_drew ?_))); (case side2 => exact (Kd.R_reads' HO517.out).2.1); (case side3 => repeat (first | exact (Kd.C_below HR1.out HB.out) | (with_reducible refine Kd.C_alloc ?_ _) | (with_reducible refine Kd.C_drewN ?_ _) | (with_reducible refine Kd.C_drew ?_))); (case side4 => exact HC1.out); rintro e w' ⟨rfl, ⟨nd, rfl⟩⟩))
    go_meet
    case rel => exact ⟨_, (true), (by first | rfl | (simp; done) | (simp [*]; done) | (simp [i64_w]; done)), H', ⟨by first | omega | exact Nat.le_refl _⟩, ⟨by (with_reducible repeat (first | apply Kd.R_alloc | apply Kd.R_drewN | apply Kd.R_drew)); exact Kd.R_mono HO513.out (fun _ hk => trivial)⟩, ⟨by repeat (first | (with_reducible first | exact HB.out | apply below_alloc | apply pw_below_drewN | apply below_drew1) | exact HB.out)⟩⟩
  case rest =>
    clear HC7
    try clear c1
    try clear c2
    try clear p2
    try clear c4
    try clear c7
    try clear c12
    try clear c12b0
    try clear c12b1
    try clear c13
    try clear c13b0
    try clear c13b1
    try clear c15
    obtain ⟨kq, x46_6, rfl, HA, HJ6, HO_5, HB⟩ := hcut
    cases kq with
    | zero => exact absurd HA.out (by simp [fringelaw11_FourierSigns.j0])
    | succ kj6 =>
      have H := HA.out
      clear HA
      simp only [fringelaw11_FourierSigns.j0] at H
      by_cases c18 : x46_6 = true
      · subst c18
        have H1 : (some false) = some r := by rw [if_pos rfl] at H; exact H
        clear H
        have H := H1
        clear H1
        exact absurd ((Option.some.inj H).trans HRT.out) (by decide)
      replace c18 := Bool.eq_false_iff.mpr c18
      subst c18
      have H1 : (fringelaw11_FourierSigns.l0 kj6 a0 t510 0) = some r := by rw [if_neg (show ¬ (false = true) by decide)] at H; exact H
      clear H
      have H := H1
      clear H1
      have H' := Aside0.mk H
      clear H
      go_wp2
      go_loopg [9] kj6 (fun kq v9 w' => ∃ (x9_2 : Int), v9 = .int .i64 x9_2 ∧ Aside0 (fringelaw11_FourierSigns.l0 kq a0 t510 x9_2 = some r) ∧ Aside0 (kq ≤ kj6) ∧ Aside0 (Kd.R (Kd.int .i64) 2 w' w.heap.size (fun _ => True) (.slice Ao10 t510.length co10) t510) ∧ Aside0 (Below w.heap.size w w'))
      case atStart => exact ⟨(0), (by first | rfl | (simp; done) | (simp [*]; done) | (simp [i64_w]; done)), H', ⟨Nat.le_refl _⟩, ⟨by (with_reducible repeat (first | apply Kd.R_alloc | apply Kd.R_drewN | apply Kd.R_drew)); exact HO_5.out⟩, ⟨by repeat (first | (with_reducible first | exact HB.out | apply below_alloc | apply pw_below_drewN | apply below_drew1) | exact HB.out)⟩⟩
      case round =>
        clear H'
        try clear c1
        try clear c2
        try clear p2
        try clear c4
        try clear c7
        try clear c12
        try clear c12b0
        try clear c12b1
        try clear c13
        try clear c13b0
        try clear c13b1
        try clear c15
        try clear c18
        try clear p2
        obtain ⟨x9_2, rfl, HA, HK2, HO_5, HB⟩ := hrel
        cases gk with
        | zero => exact absurd HA.out (by simp [fringelaw11_FourierSigns.l0])
        | succ k2 =>
          have H := HA.out
          clear HA
          simp only [fringelaw11_FourierSigns.l0] at H
          by_cases c19 : x9_2 < (t510.length : Int)
          rotate_left
          · rw [if_neg c19] at H
            have c19b0 : decide (x9_2 < (t510.length : Int)) = false := decide_eq_false c19
            clear c19
            replace H := Option.bind_eq_some_iff.mp H
            obtain ⟨t521, A230, H⟩ := H
            replace H : (some t521) = some r := H
            have A23 := Aside0.mk A230
            clear A230
            obtain rfl := Option.some.inj H
            go_wp2_with (first | ((with_reducible refine gate_callee (f := 29) rfl ?_); refine goesL_ (some 69) rfl rfl Try.func29 (by kernel_rfl) rfl #[] rfl (by (try simp only [List.map_toArray, List.map_cons, List.map_nil]); first | done | rfl | (simp only [List.length_drop, List.length_take]; rfl)) ?_; (with_reducible refine (fringelaw11_alive.calls  t521 _ A23.out).mono ?_); rintro e w24 ⟨rfl, hb⟩; refine ⟨_, rfl, ?_⟩; have n0_ := Aside0.mk (Kd.R_below (by (with_reducible repeat (first | apply Kd.R_alloc | apply Kd.R_drewN | apply Kd.R_drew)); exact HO_5.out) hb); have n1_ := Aside0.mk (below_step (by repeat (first | (with_reducible first | exact HB.out | apply below_alloc | apply pw_below_drewN | apply below_drew1) | exact HB.out)) hb); clear HO_5; clear HB; have HO_5 := n0_; have HB := n1_; clear n0_ n1_; (try clear hb); (try clear hb2); (try clear hk); (try clear hi)))
            go_ret
            exact ⟨by first | rfl | (simp [errW_none, errW_some] <;> rfl) | (simp [*, errW_none, errW_some] <;> rfl), by repeat (first | (with_reducible first | exact HB.out | apply below_alloc | apply pw_below_drewN | apply below_drew1) | exact HB.out)⟩
          rw [if_pos c19] at H
          have c19b0 : decide (x9_2 < (t510.length : Int)) = true := decide_eq_true c19
          clear c19
          by_cases c20 : 0 ≤ x9_2
          rotate_left
          · rw [if_neg c20] at H
            exact absurd H (by simp)
          rw [if_pos c20] at H
          have c20b0 : decide (0 ≤ x9_2) = true := decide_eq_true c20
          clear c20
          by_cases c21 : (wrap64 (2 * (rd t510 x9_2))) > a0
          · rw [if_pos c21] at H
            have c21b0 : decide (a0 < (wrap64 (2 * (rd t510 x9_2)))) = true := decide_eq_true c21
            clear c21
            exact absurd ((Option.some.inj H).trans HRT.out) (by decide)
          rw [if_neg c21] at H
          have c21b0 : decide (a0 < (wrap64 (2 * (rd t510 x9_2)))) = false := decide_eq_false c21
          clear c21
          by_cases c22 : (wrap64 ((-2) * (rd t510 x9_2))) ≥ a0
          · rw [if_pos c22] at H
            have c22b0 : decide (a0 ≤ (wrap64 ((-2) * (rd t510 x9_2)))) = true := decide_eq_true c22
            clear c22
            exact absurd ((Option.some.inj H).trans HRT.out) (by decide)
          rw [if_neg c22] at H
          have c22b0 : decide (a0 ≤ (wrap64 ((-2) * (rd t510 x9_2)))) = false := decide_eq_false c22
          clear c22
          have H' := Aside0.mk H
          clear H
          have p519 : 0 ≤ (x9_2 : Int) := of_decide_eq_true (by first | (with_reducible assumption) | assumption)
          have q519 : x9_2 < (t510.length : Int) := of_decide_eq_true (by first | (with_reducible assumption) | assumption)
          obtain ⟨ad519, e519, hx519_0⟩ := Kd.at_int (Kd.R_reads' HO_5.out).2.2 x9_2 p519 q519
          cases e519
          replace p519 := eq_true p519
          replace q519 := eq_true q519
          have p520 : 0 ≤ (x9_2 : Int) := of_decide_eq_true (by first | (with_reducible assumption) | assumption)
          have q520 : x9_2 < (t510.length : Int) := of_decide_eq_true (by first | (with_reducible assumption) | assumption)
          obtain ⟨ad520, e520, hx520_0⟩ := Kd.at_int (Kd.R_reads' HO_5.out).2.2 x9_2 p520 q520
          obtain rfl : ad519 = ad520 := (by injection e520)
          replace p520 := eq_true p520
          replace q520 := eq_true q520
          go_wp2
          go_roundg k2
          case measure => have := HJ6.out; have := HK2.out; omega
          case rel => exact ⟨(wrap64 (x9_2 + 1)), (by first | rfl | (simp; done) | (simp [*]; done) | (simp [i64_w]; done)), H', ⟨by have := HJ6.out; have := HK2.out; omega⟩, ⟨by (with_reducible repeat (first | apply Kd.R_alloc | apply Kd.R_drewN | apply Kd.R_drew)); exact HO_5.out⟩, ⟨by repeat (first | (with_reducible first | exact HB.out | apply below_alloc | apply pw_below_drewN | apply below_drew1) | exact HB.out)⟩⟩
/-- THE ONE PURE STATEMENT of fringelaw11_FourierSigns: yours. -/
def fringelaw11_FourierSigns.Pure : Prop := ∀ (a0 : Int) (l1 : List Int), (Lit.int .i64 a0).wf = true → l1.length ≤ maxLen → l1.length * 8 ≤ 140737488351232 → (∀ x ∈ l1, (Lit.int .i64 x).wf = true) → ∃ k, fringelaw11_FourierSigns.f k a0 l1 = some true
theorem fringelaw11_FourierSigns.walk (P : fringelaw11_FourierSigns.Pure) (a0 : Int) (a1 : Option Addr) (len1 cap1 : Nat) (z1 : List Int) (w : World) (w0 : (Lit.int .i64 a0).wf = true) (w1 : (a1 = none ∧ len1 = 0 ∧ cap1 = 0 ∧ z1 = []) ∨ ∃ x, a1 = some x ∧ len1 ≤ cap1 ∧ cap1 ≤ maxLen ∧ z1.length = cap1 ∧ (∀ i, i < z1.length → w.cell? (x.add i) = some (.int .i64 (z1.getD i 0))) ∧ ∀ n ∈ z1, (Lit.int .i64 n).wf = true) (y1 : len1 * 8 ≤ 140737488351232) :
    Calls Try.prog 7 #[.int .i64 a0, .slice a1 len1 cap1] w fun e w' => e = .returned (.bool true) ∧ Below w.heap.size w w' := by
  obtain ⟨l1, rfl, hr1, hm1, hw1, hc1⟩ := ReadsInt.ofRowC w1
  obtain ⟨k, h⟩ := P a0 l1 w0 hm1 y1 hw1
  refine (fringelaw11_FourierSigns.calls k a0 _ _ l1 true w (Kd.C_of_reads (d := (0 : Int)) (h1 := fun _ => rfl) hr1) hc1 rfl h).mono ?_
  rintro e w' ⟨rfl, hd⟩
  exact ⟨rfl, hd⟩

end Go.Proofs.Ytbeidonfmeengaa.PAll
