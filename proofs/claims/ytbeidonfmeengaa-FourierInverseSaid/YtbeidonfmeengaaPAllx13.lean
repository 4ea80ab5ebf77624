-- Written by a program of this session, after the kit's print
import Derived.Test.YtbeidonfmeengaaPAllx0
import Derived.Test.YtbeidonfmeengaaPAllx2
import Derived.Test.YtbeidonfmeengaaPAllx4
import Derived.Test.YtbeidonfmeengaaPAllx7
import Derived.Test.YtbeidonfmeengaaPAllx9
namespace Go.Proofs.Ytbeidonfmeengaa.PAll
open Go.RowKit Go.Proofs.YtbeidonfmeengaaW.PrintWords Go.Proofs.YtbeidonfmeengaaW.PrintLast Go.Proofs.YtbeidonfmeengaaW.PrintMore
attribute [local go_sem] max2_int min2_int max_two min_two max_three min_three max_four min_four   -- for this text's walks alone
set_option linter.unusedVariables false
set_option linter.unusedSimpArgs false

/-! ### fringelaw11_FourierInverse: function 5 -/
def fringelaw11_FourierInverse.l0 : Nat → Int → List Int → List Int → Int → List Int → Int → Int → List Int → Int → Int → Int → Option (Bool)
  | 0, _, _, _, _, _, _, _, _, _, _, _ => none
  | k + 1, x0, x1, x5, x6, x7, x8, x10, x11, x12, x13, x14 => if x14 < (x1.length : Int) then (if 0 ≤ x14 then (if x0 = 0 then (none) else (fringelaw11_FourierInverse.l0 k x0 x1 x5 x6 x7 x8 x10 x11 x12 (Int.tmod (wrap64 (x13 + (rd x1 x14))) x0) (wrap64 (x14 + 1)))) else (none)) else (if x6 = 0 then (if x8 = 0 then (if x10 = 0 then (if x12 = 0 then ((fringeref10_Same.f k x7 x1).bind fun t455 => (if t455 = true then ((fringeref10_Same.f k x11 x1).bind fun t456 => (if t456 = true then (if (x5.length : Int) = (x1.length : Int) then (if 0 < (x5.length : Int) then (if (rd x5 0) = x13 then ((fringelaw11_alive.f).bind fun t458 => (some t458)) else (some false)) else (none)) else (some false)) else (some false))) else (some false))) else (some false)) else (some false)) else (some false)) else (some false))
def fringelaw11_FourierInverse.f (k : Nat) (a0 : Int) (l1 : List Int) : Option (Bool) := (fringelaw11_fit.f k a0 l1 l1).bind fun t436 => (if t436 = true then ((fourier_Forward.f k a0 l1).bind fun bt438 => ((fourier_Back.f k a0 bt438.1).bind fun bt442 => ((fourier_Back.f k a0 l1).bind fun bt446 => ((fourier_Forward.f k a0 bt446.1).bind fun bt450 => (fringelaw11_FourierInverse.l0 k a0 l1 bt438.1 bt438.2 bt442.1 bt442.2 bt446.2 bt450.1 bt450.2 0 0))))) else ((fringelaw11_alive.f).bind fun t437 => (some t437)))
theorem fringelaw11_FourierInverse.mono_l : ∀ k, (∀ y0 y1 y2 y3 y4 y5 y6 y7 y8 y9 y10, LeO (fringelaw11_FourierInverse.l0 k y0 y1 y2 y3 y4 y5 y6 y7 y8 y9 y10) (fringelaw11_FourierInverse.l0 (k + 1) y0 y1 y2 y3 y4 y5 y6 y7 y8 y9 y10))
  | 0 => fun _ _ _ _ _ _ _ _ _ _ _ r h => by simp [fringelaw11_FourierInverse.l0] at h
  | k + 1 => by
    have ih0 := fringelaw11_FourierInverse.mono_l k
    · intro y0 y1 y2 y3 y4 y5 y6 y7 y8 y9 y10
      unfold fringelaw11_FourierInverse.l0
      repeat' first
      | (with_reducible exact ih0 _ _ _ _ _ _ _ _ _ _ _)
      | (with_reducible exact fourier_Back.mono _ _ _)
      | (with_reducible exact fourier_Forward.mono _ _ _)
      | (with_reducible exact fringelaw11_fit.mono _ _ _ _)
      | (with_reducible exact fringeref10_Same.mono _ _ _)
      | (with_reducible exact LeO.refl _)
      | (with_reducible exact LeO.none _)
      | (with_reducible refine LeO.ite ?_ ?_)
      | (with_reducible refine LeO.bind ?_ (fun _ => ?_))
      | exact ih0 _ _ _ _ _ _ _ _ _ _ _
      | exact fourier_Back.mono _ _ _
      | exact fourier_Forward.mono _ _ _
      | exact fringelaw11_fit.mono _ _ _ _
      | exact fringeref10_Same.mono _ _ _
      | exact LeO.none _
      | refine LeO.ite ?_ ?_
      | refine LeO.bind ?_ (fun _ => ?_)
theorem fringelaw11_FourierInverse.mono : ∀ a0 a1 k, LeO (fringelaw11_FourierInverse.f k a0 a1) (fringelaw11_FourierInverse.f (k + 1) a0 a1) := by
  intro a0 a1 k
  have ih0 := fringelaw11_FourierInverse.mono_l k
  unfold fringelaw11_FourierInverse.f
  repeat' first
      | (with_reducible exact ih0 _ _ _ _ _ _ _ _ _ _ _)
      | (with_reducible exact fourier_Back.mono _ _ _)
      | (with_reducible exact fourier_Forward.mono _ _ _)
      | (with_reducible exact fringelaw11_fit.mono _ _ _ _)
      | (with_reducible exact fringeref10_Same.mono _ _ _)
      | (with_reducible exact LeO.refl _)
      | (with_reducible exact LeO.none _)
      | (with_reducible refine LeO.ite ?_ ?_)
      | (with_reducible refine LeO.bind ?_ (fun _ => ?_))
      | exact ih0 _ _ _ _ _ _ _ _ _ _ _
      | exact fourier_Back.mono _ _ _
      | exact fourier_Forward.mono _ _ _
      | exact fringelaw11_fit.mono _ _ _ _
      | exact fringeref10_Same.mono _ _ _
      | exact LeO.none _
      | refine LeO.ite ?_ ?_
      | refine LeO.bind ?_ (fun _ => ?_)
set_option maxHeartbeats 8000000 in
set_option maxRecDepth 100000 in
theorem fringelaw11_FourierInverse.calls (k : Nat) (a0 : Int) (A1 : Option Addr) (c1 : Nat) (l1 : List Int) (r : Bool) (w : World) (hr1 : Kd.C (Kd.int .i64) w A1 l1.length l1) (hc1 : l1.length ≤ c1) (hrt : r = true) (h : fringelaw11_FourierInverse.f k a0 l1 = some r) :
    Calls Try.prog 5 #[.int .i64 a0, .slice A1 l1.length c1] w fun e w' => e = .returned (.bool r) ∧ Below w.heap.size w w' := by
  have HR1 := Aside0.mk hr1
  have HC1 := Aside0.mk hc1
  clear hr1 hc1
  have HB := Aside0.mk (Below.refl w.heap.size w)
  have HRT := Aside0.mk hrt
  clear hrt
  have H : ((fringelaw11_fit.f k a0 l1 l1).bind fun t436 => (if t436 = true then ((fourier_Forward.f k a0 l1).bind fun bt438 => ((fourier_Back.f k a0 bt438.1).bind fun bt442 => ((fourier_Back.f k a0 l1).bind fun bt446 => ((fourier_Forward.f k a0 bt446.1).bind fun bt450 => (fringelaw11_FourierInverse.l0 k a0 l1 bt438.1 bt438.2 bt442.1 bt442.2 bt446.2 bt450.1 bt450.2 0 0))))) else ((fringelaw11_alive.f).bind fun t437 => (some t437)))) = some r := h
  clear h
  replace H := Option.bind_eq_some_iff.mp H
  obtain ⟨t436, A30, H⟩ := H
  replace H : (if t436 = true then ((fourier_Forward.f k a0 l1).bind fun bt438 => ((fourier_Back.f k a0 bt438.1).bind fun bt442 => ((fourier_Back.f k a0 l1).bind fun bt446 => ((fourier_Forward.f k a0 bt446.1).bind fun bt450 => (fringelaw11_FourierInverse.l0 k a0 l1 bt438.1 bt438.2 bt442.1 bt442.2 bt446.2 bt450.1 bt450.2 0 0))))) else ((fringelaw11_alive.f).bind fun t437 => (some t437))) = some r := H
  have A3 := Aside0.mk A30
  clear A30
  by_cases c4 : t436 = true
  rotate_left
  · replace c4 := Bool.eq_false_iff.mpr c4
    subst c4
    have H1 : ((fringelaw11_alive.f).bind fun t437 => (some t437)) = some r := by rw [if_neg (show ¬ (false = true) by decide)] at H; exact H
    clear H
    have H := H1
    clear H1
    replace H := Option.bind_eq_some_iff.mp H
    obtain ⟨t437, A340, H⟩ := H
    replace H : (some t437) = some r := H
    have A34 := Aside0.mk A340
    clear A340
    obtain rfl := Option.some.inj H
    go_enter Try.func5, Try.ntmps5
    go_wp2_with (first | ((with_reducible refine gate_callee (f := 28) rfl ?_); refine goesL_ (some 18) rfl rfl Try.func28 (by kernel_rfl) rfl #[.int .i64 a0, .slice A1 l1.length c1, .slice A1 l1.length c1] rfl (by (try simp only [List.map_toArray, List.map_cons, List.map_nil]); first | done | rfl | (simp only [List.length_drop, List.length_take]; rfl)) ?_; (with_reducible refine (fringelaw11_fit.calls k a0 _ _ l1 _ _ l1 false _ ?side1 ?side2 ?side3 ?side4 A3.out).mono ?_); (case side1 => repeat (first | exact HR1.out | (with_reducible refine Kd.C_alloc ?_ _) | (with_reducible refine Kd.C_drewN ?_ _) | (with_reducible refine Kd.C_drew ?_))); (case side2 => exact HC1.out); (case side3 => repeat (first | exact HR1.out | (with_reducible refine Kd.C_alloc ?_ _) | (with_reducible refine Kd.C_drewN ?_ _) | (with_reducible refine Kd.C_drew ?_))); (case side4 => exact HC1.out); rintro e w35 ⟨rfl, hb⟩; refine ⟨_, rfl, ?_⟩; have n0_ := Aside0.mk (below_step (by repeat (first | (with_reducible first | exact HB.out | apply below_alloc | apply pw_below_drewN | apply below_drew1) | exact HB.out)) hb); clear HB; have HB := n0_; clear n0_; (try clear hb); (try clear hb2); (try clear hk); (try clear hi)) | ((with_reducible refine gate_callee (f := 29) rfl ?_); refine goesL_ (some 20) rfl rfl Try.func29 (by kernel_rfl) rfl #[] rfl (by (try simp only [List.map_toArray, List.map_cons, List.map_nil]); first | done | rfl | (simp only [List.length_drop, List.length_take]; rfl)) ?_; (with_reducible refine (fringelaw11_alive.calls  t437 _ A34.out).mono ?_); rintro e w36 ⟨rfl, hb⟩; refine ⟨_, rfl, ?_⟩; have n0_ := Aside0.mk (below_step (by repeat (first | (with_reducible first | exact HB.out | apply below_alloc | apply pw_below_drewN | apply below_drew1) | exact HB.out)) hb); clear HB; have HB := n0_; clear n0_; (try clear hb); (try clear hb2); (try clear hk); (try clear hi)))
    go_ret
    exact ⟨by first | rfl | (simp [errW_none, errW_some] <;> rfl) | (simp [*, errW_none, errW_some] <;> rfl), by repeat (first | (with_reducible first | exact HB.out | apply below_alloc | apply pw_below_drewN | apply below_drew1) | exact HB.out)⟩

  subst c4
  have H1 : ((fourier_Forward.f k a0 l1).bind fun bt438 => ((fourier_Back.f k a0 bt438.1).bind fun bt442 => ((fourier_Back.f k a0 l1).bind fun bt446 => ((fourier_Forward.f k a0 bt446.1).bind fun bt450 => (fringelaw11_FourierInverse.l0 k a0 l1 bt438.1 bt438.2 bt442.1 bt442.2 bt446.2 bt450.1 bt450.2 0 0))))) = some r := by rw [if_pos rfl] at H; exact H
  clear H
  have H := H1
  clear H1
  replace H := Option.bind_eq_some_iff.mp H
  obtain ⟨⟨t438, t439⟩, A50, H⟩ := H
  replace H : ((fourier_Back.f k a0 t438).bind fun bt442 => ((fourier_Back.f k a0 l1).bind fun bt446 => ((fourier_Forward.f k a0 bt446.1).bind fun bt450 => (fringelaw11_FourierInverse.l0 k a0 l1 t438 t439 bt442.1 bt442.2 bt446.2 bt450.1 bt450.2 0 0)))) = some r := H
  have A5 := Aside0.mk A50
  clear A50
  replace H := Option.bind_eq_some_iff.mp H
  obtain ⟨⟨t442, t443⟩, A60, H⟩ := H
  replace H : ((fourier_Back.f k a0 l1).bind fun bt446 => ((fourier_Forward.f k a0 bt446.1).bind fun bt450 => (fringelaw11_FourierInverse.l0 k a0 l1 t438 t439 t442 t443 bt446.2 bt450.1 bt450.2 0 0))) = some r := H
  have A6 := Aside0.mk A60
  clear A60
  replace H := Option.bind_eq_some_iff.mp H
  obtain ⟨⟨t446, t447⟩, A70, H⟩ := H
  replace H : ((fourier_Forward.f k a0 t446).bind fun bt450 => (fringelaw11_FourierInverse.l0 k a0 l1 t438 t439 t442 t443 t447 bt450.1 bt450.2 0 0)) = some r := H
  have A7 := Aside0.mk A70
  clear A70
  replace H := Option.bind_eq_some_iff.mp H
  obtain ⟨⟨t450, t451⟩, A80, H⟩ := H
  replace H : (fringelaw11_FourierInverse.l0 k a0 l1 t438 t439 t442 t443 t447 t450 t451 0 0) = some r := H
  have A8 := Aside0.mk A80
  clear A80
  have H' := Aside0.mk H
  clear H
  go_enter Try.func5, Try.ntmps5
  go_wp2_with (first | ((with_reducible refine gate_callee (f := 28) rfl ?_); refine goesL_ (some 18) rfl rfl Try.func28 (by kernel_rfl) rfl #[.int .i64 a0, .slice A1 l1.length c1, .slice A1 l1.length c1] rfl (by (try simp only [List.map_toArray, List.map_cons, List.map_nil]); first | done | rfl | (simp only [List.length_drop, List.length_take]; rfl)) ?_; (with_reducible refine (fringelaw11_fit.calls k a0 _ _ l1 _ _ l1 true _ ?side1 ?side2 ?side3 ?side4 A3.out).mono ?_); (case side1 => repeat (first | exact HR1.out | (with_reducible refine Kd.C_alloc ?_ _) | (with_reducible refine Kd.C_drewN ?_ _) | (with_reducible refine Kd.C_drew ?_))); (case side2 => exact HC1.out); (case side3 => repeat (first | exact HR1.out | (with_reducible refine Kd.C_alloc ?_ _) | (with_reducible refine Kd.C_drewN ?_ _) | (with_reducible refine Kd.C_drew ?_))); (case side4 => exact HC1.out); rintro e w9 ⟨rfl, hb⟩; refine ⟨_, rfl, ?_⟩; have n0_ := Aside0.mk (below_step (by repeat (first | (with_reducible first | exact HB.out | apply below_alloc | apply pw_below_drewN | apply below_drew1) | exact HB.out)) hb); clear HB; have HB := n0_; clear n0_; (try clear hb); (try clear hb2); (try clear hk); (try clear hi)) | ((with_reducible refine gate_callee (f := 11) rfl ?_); refine goesL_ (some 24) rfl rfl Try.func11 (by kernel_rfl) rfl #[.int .i64 a0, .slice A1 l1.length c1] rfl (by (try simp only [List.map_toArray, List.map_cons, List.map_nil]); first | done | rfl | (simp only [List.length_drop, List.length_take]; rfl)) ?_; (with_reducible refine (fourier_Forward.calls k a0 _ _ l1 t438 t439 _ ?side1 ?side2 A5.out).mono ?_); (case side1 => repeat (first | exact (Kd.C_below HR1.out HB.out) | (with_reducible refine Kd.C_alloc ?_ _) | (with_reducible refine Kd.C_drewN ?_ _) | (with_reducible refine Kd.C_drew ?_))); (case side2 => exact HC1.out); rintro e w10 ⟨v440, rfl, ho0, hb⟩; refine ⟨_, rfl, ?_⟩; have n0_ := Aside0.mk (Kd.R_lower ho0 (below_size (by repeat (first | (with_reducible first | exact HB.out | apply below_alloc | apply pw_below_drewN | apply below_drew1) | exact HB.out)))); have n1_ := Aside0.mk (below_step (by repeat (first | (with_reducible first | exact HB.out | apply below_alloc | apply pw_below_drewN | apply below_drew1) | exact HB.out)) hb); clear HB; have HO441 := n0_; have HB := n1_; clear n0_ n1_; (try clear hb); (try clear hb2); (try clear hk); (try clear hi); (try clear ho0); obtain ⟨Ao11, co11, eo11⟩ := Kd.R_slice HO441.out; subst eo11) | ((with_reducible refine gate_callee (f := 13) rfl ?_); refine goesL_ (some 30) rfl rfl Try.func13 (by kernel_rfl) rfl #[.int .i64 a0, .slice Ao11 t438.length co11] rfl (by (try simp only [List.map_toArray, List.map_cons, List.map_nil]); first | done | rfl | (simp only [List.length_drop, List.length_take]; rfl)) ?_; (with_reducible refine (fourier_Back.calls k a0 _ _ t438 t442 t443 _ ?side1 ?side2 A6.out).mono ?_); (case side1 => repeat (first | exact (Kd.R_reads' HO441.out).2.2 | (with_reducible refine Kd.C_alloc ?_ _) | (with_reducible refine Kd.C_drewN ?_ _) | (with_reducible refine Kd.C_drew ?_))); (case side2 => exact (Kd.R_reads' HO441.out).2.1); rintro e w12 ⟨v444, rfl, ho0, hb⟩; refine ⟨_, rfl, ?_⟩; have n0_ := Aside0.mk (Kd.R_elder' (by (with_reducible repeat (first | apply Kd.R_alloc | apply Kd.R_drewN | apply Kd.R_drew)); exact HO441.out) (Kd.R_base ho0) hb); have n1_ := Aside0.mk (Kd.R_lower (Kd.R_new' ho0 (Kd.R_lt (by (with_reducible repeat (first | apply Kd.R_alloc | apply Kd.R_drewN | apply Kd.R_drew)); exact HO441.out))) (below_size (by repeat (first | (with_reducible first | exact HB.out | apply below_alloc | apply pw_below_drewN | apply below_drew1) | exact HB.out)))); have n2_ := Aside0.mk (below_step (by repeat (first | (with_reducible first | exact HB.out | apply below_alloc | apply pw_below_drewN | apply below_drew1) | exact HB.out)) hb); clear HO441; clear HB; have HO441 := n0_; have HO445 := n1_; have HB := n2_; clear n0_ n1_ n2_; (try clear hb); (try clear hb2); (try clear hk); (try clear hi); (try clear ho0)) | ((with_reducible refine gate_callee (f := 13) rfl ?_); refine goesL_ (some 36) rfl rfl Try.func13 (by kernel_rfl) rfl #[.int .i64 a0, .slice A1 l1.length c1] rfl (by (try simp only [List.map_toArray, List.map_cons, List.map_nil]); first | done | rfl | (simp only [List.length_drop, List.length_take]; rfl)) ?_; (with_reducible refine (fourier_Back.calls k a0 _ _ l1 t446 t447 _ ?side1 ?side2 A7.out).mono ?_); (case side1 => repeat (first | exact (Kd.C_below HR1.out HB.out) | (with_reducible refine Kd.C_alloc ?_ _) | (with_reducible refine Kd.C_drewN ?_ _) | (with_reducible refine Kd.C_drew ?_))); (case side2 => exact HC1.out); rintro e w13 ⟨v448, rfl, ho0, hb⟩; refine ⟨_, rfl, ?_⟩; have n0_ := Aside0.mk (Kd.R_elder' (by (with_reducible repeat (first | apply Kd.R_alloc | apply Kd.R_drewN | apply Kd.R_drew)); exact HO441.out) (Kd.R_base ho0) hb); have n1_ := Aside0.mk (Kd.R_elder' (by (with_reducible repeat (first | apply Kd.R_alloc | apply Kd.R_drewN | apply Kd.R_drew)); exact HO445.out) (Kd.R_base ho0) hb); have n2_ := Aside0.mk (Kd.R_lower (Kd.R_new' (Kd.R_new' ho0 (Kd.R_lt (by (with_reducible repeat (first | apply Kd.R_alloc | apply Kd.R_drewN | apply Kd.R_drew)); exact HO441.out))) (Kd.R_lt (by (with_reducible repeat (first | apply Kd.R_alloc | apply Kd.R_drewN | apply Kd.R_drew)); exact HO445.out))) (below_size (by repeat (first | (with_reducible first | exact HB.out | apply below_alloc | apply pw_below_drewN | apply below_drew1) | exact HB.out)))); have n3_ := Aside0.mk (below_step (by repeat (first | (with_reducible first | exact HB.out | apply below_alloc | apply pw_below_drewN | apply below_drew1) | exact HB.out)) hb); clear HO441; clear HO445; clear HB; have HO441 := n0_; have HO445 := n1_; have HO449 := n2_; have HB := n3_; clear n0_ n1_ n2_ n3_; (try clear hb); (try clear hb2); (try clear hk); (try clear hi); (try clear ho0); obtain ⟨Ao14, co14, eo14⟩ := Kd.R_slice HO449.out; subst eo14) | ((with_reducible refine gate_callee (f := 11) rfl ?_); refine goesL_ (some 42) rfl rfl Try.func11 (by kernel_rfl) rfl #[.int .i64 a0, .slice Ao14 t446.length co14] rfl (by (try simp only [List.map_toArray, List.map_cons, List.map_nil]); first | done | rfl | (simp only [List.length_drop, List.length_take]; rfl)) ?_; (with_reducible refine (fourier_Forward.calls k a0 _ _ t446 t450 t451 _ ?side1 ?side2 A8.out).mono ?_); (case side1 => repeat (first | exact (Kd.R_reads' HO449.out).2.2 | (with_reducible refine Kd.C_alloc ?_ _) | (with_reducible refine Kd.C_drewN ?_ _) | (with_reducible refine Kd.C_drew ?_))); (case side2 => exact (Kd.R_reads' HO449.out).2.1); rintro e w15 ⟨v452, rfl, ho0, hb⟩; refine ⟨_, rfl, ?_⟩; have n0_ := Aside0.mk (Kd.R_elder' (by (with_reducible repeat (first | apply Kd.R_alloc | apply Kd.R_drewN | apply Kd.R_drew)); exact HO441.out) (Kd.R_base ho0) hb); have n1_ := Aside0.mk (Kd.R_elder' (by (with_reducible repeat (first | apply Kd.R_alloc | apply Kd.R_drewN | apply Kd.R_drew)); exact HO445.out) (Kd.R_base ho0) hb); have n2_ := Aside0.mk (Kd.R_elder' (by (with_reducible repeat (first | apply Kd.R_alloc | apply Kd.R_drewN | apply Kd.R_drew)); exact HO449.out) (Kd.R_base ho0) hb); have n3_ := Aside0.mk (Kd.R_lower (Kd.R_new' (Kd.R_new' (Kd.R_new' ho0 (Kd.R_lt (by (with_reducible repeat (first | apply Kd.R_alloc | apply Kd.R_drewN | apply Kd.R_drew)); exact HO441.out))) (Kd.R_lt (by (with_reducible repeat (first | apply Kd.R_alloc | apply Kd.R_drewN | apply Kd.R_drew)); exact HO445.out))) (Kd.R_lt (by (with_reducible repeat (first | apply Kd.R_alloc | apply Kd.R_drewN | apply Kd.R_drew)); exact HO449.out))) (below_size (by repeat (first | (with_reducible first | exact HB.out | apply below_alloc | apply pw_below_drewN | apply below_drew1) | exact HB.out)))); have n4_ := Aside0.mk (below_step (by repeat (first | (with_reducible first | exact HB.out | apply below_alloc | apply pw_below_drewN | apply below_drew1) | exact HB.out)) hb); clear HO441; clear HO445; clear HO449; clear HB; have HO441 := n0_; have HO445 := n1_; have HO449 := n2_; have HO453 := n3_; have HB := n4_; clear n0_ n1_ n2_ n3_ n4_; (try clear hb); (try clear hb2); (try clear hk); (try clear hi); (try clear ho0)))
  go_loopg [13, 14] k (fun kq v13 v14 w' => ∃ (x13_1 : Int) (x14_1 : Int), v13 = .int .i64 x13_1 ∧ v14 = .int .i64 x14_1 ∧ Aside0 (fringelaw11_FourierInverse.l0 kq a0 l1 t438 t439 t442 t443 t447 t450 t451 x13_1 x14_1 = some r) ∧ Aside0 (kq ≤ k) ∧ Aside0 (Kd.R (Kd.int .i64) 2 w' w.heap.size (fun k_ => some k_ ≠ (v444 : Value).ownBlock ∧ some k_ ≠ (v452 : Value).ownBlock) (.slice Ao11 t438.length co11) t438) ∧ Aside0 (Kd.R (Kd.int .i64) 2 w' w.heap.size (fun k_ => some k_ ≠ ((.slice Ao11 t438.length co11) : Value).ownBlock ∧ some k_ ≠ (v452 : Value).ownBlock) v444 t442) ∧ Aside0 (Kd.R (Kd.int .i64) 2 w' w.heap.size (fun k_ => some k_ ≠ ((.slice Ao11 t438.length co11) : Value).ownBlock ∧ some k_ ≠ (v444 : Value).ownBlock) v452 t450) ∧ Aside0 (Below w.heap.size w w'))
  case atStart => exact ⟨(0), (0), (by first | rfl | (simp; done) | (simp [*]; done) | (simp [i64_w]; done)), (by first | rfl | (simp; done) | (simp [*]; done) | (simp [i64_w]; done)), H', ⟨Nat.le_refl _⟩, ⟨by (with_reducible repeat (first | apply Kd.R_alloc | apply Kd.R_drewN | apply Kd.R_drew)); exact Kd.R_mono HO441.out (fun _ hk => ⟨hk.1.1.2, hk.2⟩)⟩, ⟨by (with_reducible repeat (first | apply Kd.R_alloc | apply Kd.R_drewN | apply Kd.R_drew)); exact Kd.R_mono HO445.out (fun _ hk => ⟨hk.1.1.2, hk.2⟩)⟩, ⟨by (with_reducible repeat (first | apply Kd.R_alloc | apply Kd.R_drewN | apply Kd.R_drew)); exact Kd.R_mono HO453.out (fun _ hk => ⟨hk.1.1.2, hk.1.2⟩)⟩, ⟨by repeat (first | (with_reducible first | exact HB.out | apply below_alloc | apply pw_below_drewN | apply below_drew1) | exact HB.out)⟩⟩
  case round =>
    clear H'
    try clear c1
    try clear c2
    try clear p2
    try clear c4
    try clear c5
    try clear c11
    try clear c13
    obtain ⟨x13_1, x14_1, rfl, rfl, HA, HK1, HO_5, HO_7, HO_11, HB⟩ := hrel
    cases gk with
    | zero => exact absurd HA.out (by simp [fringelaw11_FourierInverse.l0])
    | succ k1 =>
      have H := HA.out
      clear HA
      simp only [fringelaw11_FourierInverse.l0] at H
      by_cases c16 : x14_1 < (l1.length : Int)
      · rw [if_pos c16] at H
        have c16b0 : decide (x14_1 < (l1.length : Int)) = true := decide_eq_true c16
        clear c16
        by_cases c17 : 0 ≤ x14_1
        rotate_left
        · rw [if_neg c17] at H
          exact absurd H (by simp)
        rw [if_pos c17] at H
        have c17b0 : decide (0 ≤ x14_1) = true := decide_eq_true c17
        clear c17
        by_cases c18 : a0 = 0
        · rw [if_pos c18] at H
          exact absurd H (by simp)
        rw [if_neg c18] at H
        have c18b0 : (a0 == 0) = false := beq_eq_false_iff_ne.mpr c18
        have c18b1 : (a0 != 0) = true := bne_iff_ne.mpr c18
        have H' := Aside0.mk H
        clear H
        have p454 : 0 ≤ (x14_1 : Int) := of_decide_eq_true (by first | (with_reducible assumption) | assumption)
        have q454 : x14_1 < (l1.length : Int) := of_decide_eq_true (by first | (with_reducible assumption) | assumption)
        obtain ⟨ad454, e454, hx454_0⟩ := Kd.at_int HR1.out x14_1 p454 q454
        cases e454
        replace hx454_0 := (HB.out.cell (World.block_lt_of_cell? w _ hx454_0)).trans hx454_0
        replace p454 := eq_true p454
        replace q454 := eq_true q454
        go_wp2
        go_roundg k1
        case measure => have := HK1.out; omega
        case rel => exact ⟨(Int.tmod (wrap64 (x13_1 + (rd l1 x14_1))) a0), (wrap64 (x14_1 + 1)), (by first | rfl | (simp; done) | (simp [*]; done) | (simp [i64_w]; done)), (by first | rfl | (simp; done) | (simp [*]; done) | (simp [i64_w]; done)), H', ⟨by have := HK1.out; omega⟩, ⟨by (with_reducible repeat (first | apply Kd.R_alloc | apply Kd.R_drewN | apply Kd.R_drew)); exact HO_5.out⟩, ⟨by (with_reducible repeat (first | apply Kd.R_alloc | apply Kd.R_drewN | apply Kd.R_drew)); exact HO_7.out⟩, ⟨by (with_reducible repeat (first | apply Kd.R_alloc | apply Kd.R_drewN | apply Kd.R_drew)); exact HO_11.out⟩, ⟨by repeat (first | (with_reducible first | exact HB.out | apply below_alloc | apply pw_below_drewN | apply below_drew1) | exact HB.out)⟩⟩
      rw [if_neg c16] at H
      have c16b0 : decide (x14_1 < (l1.length : Int)) = false := decide_eq_false c16
      clear c16
      by_cases c19 : t439 = 0
      rotate_left
      · rw [if_neg c19] at H
        have c19b0 : (t439 == 0) = false := beq_eq_false_iff_ne.mpr c19
        have c19b1 : (t439 != 0) = true := bne_iff_ne.mpr c19
        exact absurd ((Option.some.inj H).trans HRT.out) (by decide)
      rw [if_pos c19] at H
      have c19b0 : (t439 == 0) = true := beq_iff_eq.mpr c19
      have c19b1 : (t439 != 0) = false := bne_eq_false_iff_eq.mpr c19
      clear c19
      by_cases c20 : t443 = 0
      rotate_left
      · rw [if_neg c20] at H
        have c20b0 : (t443 == 0) = false := beq_eq_false_iff_ne.mpr c20
        have c20b1 : (t443 != 0) = true := bne_iff_ne.mpr c20
        exact absurd ((Option.some.inj H).trans HRT.out) (by decide)
      rw [if_pos c20] at H
      have c20b0 : (t443 == 0) = true := beq_iff_eq.mpr c20
      have c20b1 : (t443 != 0) = false := bne_eq_false_iff_eq.mpr c20
      clear c20
      by_cases c21 : t447 = 0
      rotate_left
      · rw [if_neg c21] at H
        have c21b0 : (t447 == 0) = false := beq_eq_false_iff_ne.mpr c21
        have c21b1 : (t447 != 0) = true := bne_iff_ne.mpr c21
        exact absurd ((Option.some.inj H).trans HRT.out) (by decide)
      rw [if_pos c21] at H
      have c21b0 : (t447 == 0) = true := beq_iff_eq.mpr c21
      have c21b1 : (t447 != 0) = false := bne_eq_false_iff_eq.mpr c21
      clear c21
      by_cases c22 : t451 = 0
      rotate_left
      · rw [if_neg c22] at H
        have c22b0 : (t451 == 0) = false := beq_eq_false_iff_ne.mpr c22
        have c22b1 : (t451 != 0) = true := bne_iff_ne.mpr c22
        exact absurd ((Option.some.inj H).trans HRT.out) (by decide)
      rw [if_pos c22] at H
      have c22b0 : (t451 == 0) = true := beq_iff_eq.mpr c22
      have c22b1 : (t451 != 0) = false := bne_eq_false_iff_eq.mpr c22
      clear c22
      replace H := Option.bind_eq_some_iff.mp H
      obtain ⟨t455, A230, H⟩ := H
      replace H : (if t455 = true then ((fringeref10_Same.f k1 t450 l1).bind fun t456 => (if t456 = true then (if (t438.length : Int) = (l1.length : Int) then (if 0 < (t438.length : Int) then (if (rd t438 0) = x13_1 then ((fringelaw11_alive.f).bind fun t458 => (some t458)) else (some false)) else (none)) else (some false)) else (some false))) else (some false)) = some r := H
      have A23 := Aside0.mk A230
      clear A230
      by_cases c24 : t455 = true
      rotate_left
      · replace c24 := Bool.eq_false_iff.mpr c24
        subst c24
        have H1 : (some false) = some r := by rw [if_neg (show ¬ (false = true) by decide)] at H; exact H
        clear H
        have H := H1
        clear H1
        exact absurd ((Option.some.inj H).trans HRT.out) (by decide)
      subst c24
      have H1 : ((fringeref10_Same.f k1 t450 l1).bind fun t456 => (if t456 = true then (if (t438.length : Int) = (l1.length : Int) then (if 0 < (t438.length : Int) then (if (rd t438 0) = x13_1 then ((fringelaw11_alive.f).bind fun t458 => (some t458)) else (some false)) else (none)) else (some false)) else (some false))) = some r := by rw [if_pos rfl] at H; exact H
      clear H
      have H := H1
      clear H1
      replace H := Option.bind_eq_some_iff.mp H
      obtain ⟨t456, A250, H⟩ := H
      replace H : (if t456 = true then (if (t438.length : Int) = (l1.length : Int) then (if 0 < (t438.length : Int) then (if (rd t438 0) = x13_1 then ((fringelaw11_alive.f).bind fun t458 => (some t458)) else (some false)) else (none)) else (some false)) else (some false)) = some r := H
      have A25 := Aside0.mk A250
      clear A250
      by_cases c26 : t456 = true
      rotate_left
      · replace c26 := Bool.eq_false_iff.mpr c26
        subst c26
        have H1 : (some false) = some r := by rw [if_neg (show ¬ (false = true) by decide)] at H; exact H
        clear H
        have H := H1
        clear H1
        exact absurd ((Option.some.inj H).trans HRT.out) (by decide)
      subst c26
      have H1 : (if (t438.length : Int) = (l1.length : Int) then (if 0 < (t438.length : Int) then (if (rd t438 0) = x13_1 then ((fringelaw11_alive.f).bind fun t458 => (some t458)) else (some false)) else (none)) else (some false)) = some r := by rw [if_pos rfl] at H; exact H
      clear H
      have H := H1
      clear H1
      by_cases c27 : (t438.length : Int) = (l1.length : Int)
      rotate_left
      · rw [if_neg c27] at H
        have c27b0 : ((t438.length : Int) == (l1.length : Int)) = false := beq_eq_false_iff_ne.mpr c27
        have c27b1 : ((t438.length : Int) != (l1.length : Int)) = true := bne_iff_ne.mpr c27
        have c27b2 : (t438.length == l1.length) = false := by first | simpa using c27 | (simp at c27 ⊢; omega)
        exact absurd ((Option.some.inj H).trans HRT.out) (by decide)
      rw [if_pos c27] at H
      have c27b0 : ((t438.length : Int) == (l1.length : Int)) = true := beq_iff_eq.mpr c27
      have c27b1 : ((t438.length : Int) != (l1.length : Int)) = false := bne_eq_false_iff_eq.mpr c27
      have c27b2 : (t438.length == l1.length) = true := by first | simpa using c27 | (simp at c27 ⊢; omega)
      clear c27
      by_cases c28 : 0 < (t438.length : Int)
      rotate_left
      · rw [if_neg c28] at H
        exact absurd H (by simp)
      rw [if_pos c28] at H
      have c28b0 : decide (0 < (t438.length : Int)) = true := decide_eq_true c28
      have c28b1 : decide (0 < t438.length) = true := decide_eq_true (by omega)
      clear c28
      by_cases c29 : (rd t438 0) = x13_1
      rotate_left
      · rw [if_neg c29] at H
        have c29b0 : ((rd t438 0) == x13_1) = false := beq_eq_false_iff_ne.mpr c29
        have c29b1 : ((rd t438 0) != x13_1) = true := bne_iff_ne.mpr c29
        exact absurd ((Option.some.inj H).trans HRT.out) (by decide)
      rw [if_pos c29] at H
      have c29b0 : ((rd t438 0) == x13_1) = true := beq_iff_eq.mpr c29
      have c29b1 : ((rd t438 0) != x13_1) = false := bne_eq_false_iff_eq.mpr c29
      clear c29
      replace H := Option.bind_eq_some_iff.mp H
      obtain ⟨t458, A300, H⟩ := H
      replace H : (some t458) = some r := H
      have A30 := Aside0.mk A300
      clear A300
      obtain rfl := Option.some.inj H
      obtain ⟨Ao31, co31, eo31⟩ := Kd.R_slice HO_7.out
      subst eo31
      go_wp2_with (first | (go_at_call 19; (with_reducible refine (fringeref10_Same.calls k1 _ _ t442 _ _ l1 true _ ?side1 ?side2 ?side3 ?side4 A23.out).mono ?_); (case side1 => repeat (first | exact (Kd.R_reads' HO_7.out).2.2 | (with_reducible refine Kd.C_alloc ?_ _) | (with_reducible refine Kd.C_drewN ?_ _) | (with_reducible refine Kd.C_drew ?_))); (case side2 => exact (Kd.R_reads' HO_7.out).2.1); (case side3 => repeat (first | exact (Kd.C_below HR1.out HB.out) | (with_reducible refine Kd.C_alloc ?_ _) | (with_reducible refine Kd.C_drewN ?_ _) | (with_reducible refine Kd.C_drew ?_))); (case side4 => exact HC1.out); rintro e w' ⟨rfl, ⟨nd, rfl⟩⟩; obtain ⟨Ao32, co32, eo32⟩ := Kd.R_slice HO_11.out; subst eo32) | (go_at_call 19; (with_reducible refine (fringeref10_Same.calls k1 _ _ t450 _ _ l1 true _ ?side1 ?side2 ?side3 ?side4 A25.out).mono ?_); (case side1 => repeat (first | exact (Kd.R_reads' HO_11.out).2.2 | (with_reducible refine Kd.C_alloc ?_ _) | (with_reducible refine Kd.C_drewN ?_ _) | (with_reducible refine Kd.C_drew ?_))); (case side2 => exact (Kd.R_reads' HO_11.out).2.1); (case side3 => repeat (first | exact (Kd.C_below HR1.out (by repeat (first | (with_reducible first | exact HB.out | apply below_alloc | apply pw_below_drewN | apply below_drew1) | exact HB.out))) | (with_reducible refine Kd.C_alloc ?_ _) | (with_reducible refine Kd.C_drewN ?_ _) | (with_reducible refine Kd.C_drew ?_))); (case side4 => exact HC1.out); rintro e w' ⟨rfl, ⟨nd, rfl⟩⟩; have p457 : 0 ≤ (0 : Int) := (by omega); have q457 : 0 < (t438.length : Int) := of_decide_eq_true (by first | (with_reducible assumption) | assumption); obtain ⟨ad457, e457, hx457_0⟩ := Kd.at_int (Kd.R_reads' HO_5.out).2.2 0 p457 q457; cases e457; have qi457 : (0 < t438.length) = True := eq_true (by omega); (try rw [show ((0 : Int)).toNat = 0 from rfl] at hx457_0); (try rw [Addr.add_zero'] at hx457_0); replace p457 := eq_true p457; replace q457 := eq_true q457) | (go_at_call 29; (with_reducible refine (fringelaw11_alive.calls  t458 _ A30.out).mono ?_); rintro e w33 ⟨rfl, hb⟩; have n0_ := Aside0.mk (Kd.R_below (by (with_reducible repeat (first | apply Kd.R_alloc | apply Kd.R_drewN | apply Kd.R_drew)); exact HO_5.out) hb); have n1_ := Aside0.mk (Kd.R_below (by (with_reducible repeat (first | apply Kd.R_alloc | apply Kd.R_drewN | apply Kd.R_drew)); exact HO_7.out) hb); have n2_ := Aside0.mk (Kd.R_below (by (with_reducible repeat (first | apply Kd.R_alloc | apply Kd.R_drewN | apply Kd.R_drew)); exact HO_11.out) hb); have n3_ := Aside0.mk (below_step (by repeat (first | (with_reducible first | exact HB.out | apply below_alloc | apply pw_below_drewN | apply below_drew1) | exact HB.out)) hb); clear HO_5; clear HO_7; clear HO_11; clear HB; have HO_5 := n0_; have HO_7 := n1_; have HO_11 := n2_; have HB := n3_; clear n0_ n1_ n2_ n3_; (try clear hb); (try clear hb2); (try clear hk); (try clear hi)))
      go_ret
      exact ⟨by first | rfl | (simp [errW_none, errW_some] <;> rfl) | (simp [*, errW_none, errW_some] <;> rfl), by repeat (first | (with_reducible first | exact HB.out | apply below_alloc | apply pw_below_drewN | apply below_drew1) | exact HB.out)⟩
/-- THE ONE PURE STATEMENT of fringelaw11_FourierInverse: yours. -/
def fringelaw11_FourierInverse.Pure : Prop := ∀ (a0 : Int) (l1 : List Int), (Lit.int .i64 a0).wf = true → l1.length ≤ maxLen → l1.length * 8 ≤ 140737488351232 → (∀ x ∈ l1, (Lit.int .i64 x).wf = true) → ∃ k, fringelaw11_FourierInverse.f k a0 l1 = some true
theorem fringelaw11_FourierInverse.walk (P : fringelaw11_FourierInverse.Pure) (a0 : Int) (a1 : Option Addr) (len1 cap1 : Nat) (z1 : List Int) (w : World) (w0 : (Lit.int .i64 a0).wf = true) (w1 : (a1 = none ∧ len1 = 0 ∧ cap1 = 0 ∧ z1 = []) ∨ ∃ x, a1 = some x ∧ len1 ≤ cap1 ∧ cap1 ≤ maxLen ∧ z1.length = cap1 ∧ (∀ i, i < z1.length → w.cell? (x.add i) = some (.int .i64 (z1.getD i 0))) ∧ ∀ n ∈ z1, (Lit.int .i64 n).wf = true) (y1 : len1 * 8 ≤ 140737488351232) :
    Calls Try.prog 5 #[.int .i64 a0, .slice a1 len1 cap1] w fun e w' => e = .returned (.bool true) ∧ Below w.heap.size w w' := by
  obtain ⟨l1, rfl, hr1, hm1, hw1, hc1⟩ := ReadsInt.ofRowC w1
  obtain ⟨k, h⟩ := P a0 l1 w0 hm1 y1 hw1
  refine (fringelaw11_FourierInverse.calls k a0 _ _ l1 true w (Kd.C_of_reads (d := (0 : Int)) (h1 := fun _ => rfl) hr1) hc1 rfl h).mono ?_
  rintro e w' ⟨rfl, hd⟩
  exact ⟨rfl, hd⟩

end Go.Proofs.Ytbeidonfmeengaa.PAll
