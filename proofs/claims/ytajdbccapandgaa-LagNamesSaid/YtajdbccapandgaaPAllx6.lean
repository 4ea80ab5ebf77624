-- Written by a program of this session, after the kit's print
import Derived.Test.YtajdbccapandgaaPAllx0
import Derived.Test.YtajdbccapandgaaPAllx5
namespace Go.Proofs.Ytajdbccapandgaa.PAll
open Go.RowKit Go.Proofs.YtajdbccapandgaaW.PrintWords Go.Proofs.YtajdbccapandgaaW.PrintLast Go.Proofs.YtajdbccapandgaaW.PrintMore
attribute [local go_sem] max2_int min2_int max_two min_two max_three min_three max_four min_four   -- for this text's walks alone
set_option linter.unusedVariables false
set_option linter.unusedSimpArgs false

/-! ### lag_Of: function 10 -/
mutual
def lag_Of.j0 : Nat → List Int → List Int → Int → Bool → Option ((List (S39)) × Int)
  | 0, _, _, _, _ => none
  | k + 1, x0, x1, x2, x30 => if x30 = true then (some (([] : List (S39)), 2)) else (if 0 ≤ (wrap64 ((wrap64 (2 * x2)) + 1)) then (if (wrap64 ((wrap64 (2 * x2)) + 1) : Int).toNat ≤ 17592186044416 then ((some (List.replicate (wrap64 ((wrap64 (2 * x2)) + 1) : Int).toNat z39 : List (S39))).bind fun y108 => (lag_Of.l0 k x0 x1 x2 y108 (y108.length : Int) 0)) else (none)) else (none))
def lag_Of.l0 : Nat → List Int → List Int → Int → List (S39) → Int → Int → Option ((List (S39)) × Int)
  | 0, _, _, _, _, _, _ => none
  | k + 1, x0, x1, x2, x10, x36, x37 => if x37 < x36 then (lag_Of.l1 k x0 x1 x2 x10 x37 (wrap64 (x37 - x2)) x36 x37 (x0.length : Int) 0) else (some (x10, 0))
def lag_Of.l1 : Nat → List Int → List Int → Int → List (S39) → Int → Int → Int → Int → Int → Int → Option ((List (S39)) × Int)
  | 0, _, _, _, _, _, _, _, _, _, _ => none
  | k + 1, x0, x1, x2, x10, x11, x12, x36, x37, x44, x45 => if x45 < x44 then (if (wrap64 (x45 + x12)) < 0 then (lag_Of.j3 k x0 x1 x2 x10 x11 x12 x45 x36 x37 x44 x45 true) else (lag_Of.j3 k x0 x1 x2 x10 x11 x12 x45 x36 x37 x44 x45 (decide ((wrap64 (x45 + x12)) ≥ (x1.length : Int))))) else (lag_Of.l0 k x0 x1 x2 x10 x36 (wrap64 (x37 + 1)))
def lag_Of.j3 : Nat → List Int → List Int → Int → List (S39) → Int → Int → Int → Int → Int → Int → Int → Bool → Option ((List (S39)) × Int)
  | 0, _, _, _, _, _, _, _, _, _, _, _, _ => none
  | k + 1, x0, x1, x2, x10, x11, x12, x13, x36, x37, x44, x45, x59 => if x59 = true then (lag_Of.l1 k x0 x1 x2 x10 x11 x12 x36 x37 x44 (wrap64 (x45 + 1))) else (if 0 ≤ x13 then (if x13 < (x0.length : Int) then (if 0 ≤ (wrap64 (x13 + x12)) then (if (wrap64 (x13 + x12)) < (x1.length : Int) then (if (wrap64 ((rd x0 x13) * (rd x1 (wrap64 (x13 + x12))))) = 0 then (lag_Of.l1 k x0 x1 x2 x10 x11 x12 x36 x37 x44 (wrap64 (x45 + 1))) else (if 0 ≤ x11 then (if x11 < (x10.length : Int) then ((some (x10.set (x11 : Int).toNat (⟨wrap64 (((rd_T39 x10 x11).f0) + (wrap64 ((rd x0 x13) * (rd x1 (wrap64 (x13 + x12)))))), (rd_T39 x10 x11).f1⟩ : S39) : List (S39))).bind fun y114 => (lag_Of.l1 k x0 x1 x2 (y114.set (x11 : Int).toNat (⟨(rd_T39 y114 x11).f0, wrap64 (((rd_T39 y114 x11).f1) + 1)⟩ : S39)) x11 x12 x36 x37 x44 (wrap64 (x45 + 1)))) else (none)) else (none))) else (none)) else (none)) else (none)) else (none))
end
def lag_Of.f (k : Nat) (l0 : List Int) (l1 : List Int) (a2 : Int) : Option ((List (S39)) × Int) := (sample_Check.f l0).bind fun t106 => (if t106 = 0 then ((sample_Check.f l1).bind fun t107 => (if t107 = 0 then (if a2 < 0 then (lag_Of.j0 k l0 l1 a2 true) else (lag_Of.j0 k l0 l1 a2 (decide (a2 > 255)))) else (some (([] : List (S39)), t107)))) else (some (([] : List (S39)), t106)))
theorem lag_Of.mono_l : ∀ k, (∀ y0 y1 y2 y3, LeO (lag_Of.j0 k y0 y1 y2 y3) (lag_Of.j0 (k + 1) y0 y1 y2 y3)) ∧ (∀ y0 y1 y2 y3 y4 y5, LeO (lag_Of.l0 k y0 y1 y2 y3 y4 y5) (lag_Of.l0 (k + 1) y0 y1 y2 y3 y4 y5)) ∧ (∀ y0 y1 y2 y3 y4 y5 y6 y7 y8 y9, LeO (lag_Of.l1 k y0 y1 y2 y3 y4 y5 y6 y7 y8 y9) (lag_Of.l1 (k + 1) y0 y1 y2 y3 y4 y5 y6 y7 y8 y9)) ∧ (∀ y0 y1 y2 y3 y4 y5 y6 y7 y8 y9 y10 y11, LeO (lag_Of.j3 k y0 y1 y2 y3 y4 y5 y6 y7 y8 y9 y10 y11) (lag_Of.j3 (k + 1) y0 y1 y2 y3 y4 y5 y6 y7 y8 y9 y10 y11))
  | 0 => ⟨fun _ _ _ _ r h => by simp [lag_Of.j0] at h, fun _ _ _ _ _ _ r h => by simp [lag_Of.l0] at h, fun _ _ _ _ _ _ _ _ _ _ r h => by simp [lag_Of.l1] at h, fun _ _ _ _ _ _ _ _ _ _ _ _ r h => by simp [lag_Of.j3] at h⟩
  | k + 1 => by
    obtain ⟨ih0, ih1, ih2, ih3⟩ := lag_Of.mono_l k
    refine ⟨?_, ?_, ?_, ?_⟩
    · intro y0 y1 y2 y3
      unfold lag_Of.j0
      repeat' first
      | (with_reducible exact ih0 _ _ _ _)
      | (with_reducible exact ih1 _ _ _ _ _ _)
      | (with_reducible exact ih2 _ _ _ _ _ _ _ _ _ _)
      | (with_reducible exact ih3 _ _ _ _ _ _ _ _ _ _ _ _)
      | (with_reducible exact LeO.refl _)
      | (with_reducible exact LeO.none _)
      | (with_reducible refine LeO.ite ?_ ?_)
      | (with_reducible refine LeO.bind ?_ (fun _ => ?_))
      | exact ih0 _ _ _ _
      | exact ih1 _ _ _ _ _ _
      | exact ih2 _ _ _ _ _ _ _ _ _ _
      | exact ih3 _ _ _ _ _ _ _ _ _ _ _ _
      | exact LeO.none _
      | refine LeO.ite ?_ ?_
      | refine LeO.bind ?_ (fun _ => ?_)
    · intro y0 y1 y2 y3 y4 y5
      unfold lag_Of.l0
      repeat' first
      | (with_reducible exact ih0 _ _ _ _)
      | (with_reducible exact ih1 _ _ _ _ _ _)
      | (with_reducible exact ih2 _ _ _ _ _ _ _ _ _ _)
      | (with_reducible exact ih3 _ _ _ _ _ _ _ _ _ _ _ _)
      | (with_reducible exact LeO.refl _)
      | (with_reducible exact LeO.none _)
      | (with_reducible refine LeO.ite ?_ ?_)
      | (with_reducible refine LeO.bind ?_ (fun _ => ?_))
      | exact ih0 _ _ _ _
      | exact ih1 _ _ _ _ _ _
      | exact ih2 _ _ _ _ _ _ _ _ _ _
      | exact ih3 _ _ _ _ _ _ _ _ _ _ _ _
      | exact LeO.none _
      | refine LeO.ite ?_ ?_
      | refine LeO.bind ?_ (fun _ => ?_)
    · intro y0 y1 y2 y3 y4 y5 y6 y7 y8 y9
      unfold lag_Of.l1
      repeat' first
      | (with_reducible exact ih0 _ _ _ _)
      | (with_reducible exact ih1 _ _ _ _ _ _)
      | (with_reducible exact ih2 _ _ _ _ _ _ _ _ _ _)
      | (with_reducible exact ih3 _ _ _ _ _ _ _ _ _ _ _ _)
      | (with_reducible exact LeO.refl _)
      | (with_reducible exact LeO.none _)
      | (with_reducible refine LeO.ite ?_ ?_)
      | (with_reducible refine LeO.bind ?_ (fun _ => ?_))
      | exact ih0 _ _ _ _
      | exact ih1 _ _ _ _ _ _
      | exact ih2 _ _ _ _ _ _ _ _ _ _
      | exact ih3 _ _ _ _ _ _ _ _ _ _ _ _
      | exact LeO.none _
      | refine LeO.ite ?_ ?_
      | refine LeO.bind ?_ (fun _ => ?_)
    · intro y0 y1 y2 y3 y4 y5 y6 y7 y8 y9 y10 y11
      unfold lag_Of.j3
      repeat' first
      | (with_reducible exact ih0 _ _ _ _)
      | (with_reducible exact ih1 _ _ _ _ _ _)
      | (with_reducible exact ih2 _ _ _ _ _ _ _ _ _ _)
      | (with_reducible exact ih3 _ _ _ _ _ _ _ _ _ _ _ _)
      | (with_reducible exact LeO.refl _)
      | (with_reducible exact LeO.none _)
      | (with_reducible refine LeO.ite ?_ ?_)
      | (with_reducible refine LeO.bind ?_ (fun _ => ?_))
      | exact ih0 _ _ _ _
      | exact ih1 _ _ _ _ _ _
      | exact ih2 _ _ _ _ _ _ _ _ _ _
      | exact ih3 _ _ _ _ _ _ _ _ _ _ _ _
      | exact LeO.none _
      | refine LeO.ite ?_ ?_
      | refine LeO.bind ?_ (fun _ => ?_)
theorem lag_Of.mono : ∀ a0 a1 a2 k, LeO (lag_Of.f k a0 a1 a2) (lag_Of.f (k + 1) a0 a1 a2) := by
  intro a0 a1 a2 k
  obtain ⟨ih0, ih1, ih2, ih3⟩ := lag_Of.mono_l k
  unfold lag_Of.f
  repeat' first
      | (with_reducible exact ih0 _ _ _ _)
      | (with_reducible exact ih1 _ _ _ _ _ _)
      | (with_reducible exact ih2 _ _ _ _ _ _ _ _ _ _)
      | (with_reducible exact ih3 _ _ _ _ _ _ _ _ _ _ _ _)
      | (with_reducible exact LeO.refl _)
      | (with_reducible exact LeO.none _)
      | (with_reducible refine LeO.ite ?_ ?_)
      | (with_reducible refine LeO.bind ?_ (fun _ => ?_))
      | exact ih0 _ _ _ _
      | exact ih1 _ _ _ _ _ _
      | exact ih2 _ _ _ _ _ _ _ _ _ _
      | exact ih3 _ _ _ _ _ _ _ _ _ _ _ _
      | exact LeO.none _
      | refine LeO.ite ?_ ?_
      | refine LeO.bind ?_ (fun _ => ?_)
set_option maxHeartbeats 8000000 in
set_option maxRecDepth 100000 in
theorem lag_Of.calls (k : Nat) (A0 : Option Addr) (c0 : Nat) (l0 : List Int) (A1 : Option Addr) (c1 : Nat) (l1 : List Int) (a2 : Int) (r1 : List (S39)) (r2 : Int) (w : World) (hr0 : Kd.C (Kd.int .i64) w A0 l0.length l0) (hc0 : l0.length ≤ c0) (hr1 : Kd.C (Kd.int .i64) w A1 l1.length l1) (hc1 : l1.length ≤ c1) (h : lag_Of.f k l0 l1 a2 = some (r1, r2)) :
    Calls Try.prog 10 #[.slice A0 l0.length c0, .slice A1 l1.length c1, .int .i64 a2] w fun e w' => ∃ v0_ : Value, e = .returned (.tuple #[v0_, .int .i64 r2]) ∧ Kd.R k39 39 w' w.heap.size (fun _ => True) v0_ r1 ∧ Below w.heap.size w w' := by
  have HR0 := Aside0.mk hr0
  have HC0 := Aside0.mk hc0
  clear hr0 hc0
  have HR1 := Aside0.mk hr1
  have HC1 := Aside0.mk hc1
  clear hr1 hc1
  have HB := Aside0.mk (Below.refl w.heap.size w)
  have H : ((sample_Check.f l0).bind fun t106 => (if t106 = 0 then ((sample_Check.f l1).bind fun t107 => (if t107 = 0 then (if a2 < 0 then (lag_Of.j0 k l0 l1 a2 true) else (lag_Of.j0 k l0 l1 a2 (decide (a2 > 255)))) else (some (([] : List (S39)), t107)))) else (some (([] : List (S39)), t106)))) = some (r1, r2) := h
  clear h
  replace H := Option.bind_eq_some_iff.mp H
  obtain ⟨t106, A40, H⟩ := H
  replace H : (if t106 = 0 then ((sample_Check.f l1).bind fun t107 => (if t107 = 0 then (if a2 < 0 then (lag_Of.j0 k l0 l1 a2 true) else (lag_Of.j0 k l0 l1 a2 (decide (a2 > 255)))) else (some (([] : List (S39)), t107)))) else (some (([] : List (S39)), t106))) = some (r1, r2) := H
  have A4 := Aside0.mk A40
  clear A40
  by_cases c5 : t106 = 0
  rotate_left
  · rw [if_neg c5] at H
    have c5b0 : (t106 == 0) = false := beq_eq_false_iff_ne.mpr c5
    have c5b1 : (t106 != 0) = true := bne_iff_ne.mpr c5
    simp only [Option.some.injEq, Prod.mk.injEq] at H
    obtain ⟨rfl, rfl⟩ := H
    go_enter Try.func10, Try.ntmps10
    go_wp2_with (first | (go_at_call 24; (with_reducible refine (sample_Check.calls _ _ l0 t106 _ ?side1 ?side2 A4.out).mono ?_); (case side1 => repeat (first | exact HR0.out | (with_reducible refine Kd.C_alloc ?_ _) | (with_reducible refine Kd.C_drewN ?_ _) | (with_reducible refine Kd.C_drew ?_))); (case side2 => exact HC0.out); rintro e w40 ⟨rfl, hb⟩; have n0_ := Aside0.mk (below_step (by repeat (first | (with_reducible first | exact HB.out | apply below_alloc | apply pw_below_drewN | apply below_drew1) | exact HB.out)) hb); clear HB; have HB := n0_; clear n0_; (try clear hb); (try clear hb2); (try clear hk); (try clear hi)))
    repeat (go_quiet (first | (go_at_call 24; (with_reducible refine (sample_Check.calls _ _ l0 t106 _ ?side1 ?side2 A4.out).mono ?_); (case side1 => repeat (first | exact HR0.out | (with_reducible refine Kd.C_alloc ?_ _) | (with_reducible refine Kd.C_drewN ?_ _) | (with_reducible refine Kd.C_drew ?_))); (case side2 => exact HC0.out); rintro e w40 ⟨rfl, hb⟩; have n0_ := Aside0.mk (below_step (by repeat (first | (with_reducible first | exact HB.out | apply below_alloc | apply pw_below_drewN | apply below_drew1) | exact HB.out)) hb); clear HB; have HB := n0_; clear n0_; (try clear hb); (try clear hb2); (try clear hk); (try clear hi))); try go_wp2_with (first | (go_at_call 24; (with_reducible refine (sample_Check.calls _ _ l0 t106 _ ?side1 ?side2 A4.out).mono ?_); (case side1 => repeat (first | exact HR0.out | (with_reducible refine Kd.C_alloc ?_ _) | (with_reducible refine Kd.C_drewN ?_ _) | (with_reducible refine Kd.C_drew ?_))); (case side2 => exact HC0.out); rintro e w40 ⟨rfl, hb⟩; have n0_ := Aside0.mk (below_step (by repeat (first | (with_reducible first | exact HB.out | apply below_alloc | apply pw_below_drewN | apply below_drew1) | exact HB.out)) hb); clear HB; have HB := n0_; clear n0_; (try clear hb); (try clear hb2); (try clear hk); (try clear hi))))
    go_ret2
    exact ⟨_, by first | rfl | (simp [errW_none, errW_some] <;> rfl) | (simp [*, errW_none, errW_some] <;> rfl), by first | exact Kd.R_nil _ _ _ _ _ | exact Kd.N_nil _ _ _ _ _ | exact Kd.V_nil _ _ _ _ _ | exact Kd.Q_nil _ _ _ _ _ | exact Kd.S_nil _ _ _ _ _, by repeat (first | (with_reducible first | exact HB.out | apply below_alloc | apply pw_below_drewN | apply below_drew1) | exact HB.out)⟩
  rw [if_pos c5] at H
  have c5b0 : (t106 == 0) = true := beq_iff_eq.mpr c5
  have c5b1 : (t106 != 0) = false := bne_eq_false_iff_eq.mpr c5
  clear c5
  replace H := Option.bind_eq_some_iff.mp H
  obtain ⟨t107, A60, H⟩ := H
  replace H : (if t107 = 0 then (if a2 < 0 then (lag_Of.j0 k l0 l1 a2 true) else (lag_Of.j0 k l0 l1 a2 (decide (a2 > 255)))) else (some (([] : List (S39)), t107))) = some (r1, r2) := H
  have A6 := Aside0.mk A60
  clear A60
  by_cases c7 : t107 = 0
  rotate_left
  · rw [if_neg c7] at H
    have c7b0 : (t107 == 0) = false := beq_eq_false_iff_ne.mpr c7
    have c7b1 : (t107 != 0) = true := bne_iff_ne.mpr c7
    simp only [Option.some.injEq, Prod.mk.injEq] at H
    obtain ⟨rfl, rfl⟩ := H
    go_enter Try.func10, Try.ntmps10
    go_wp2_with (first | (go_at_call 24; (with_reducible refine (sample_Check.calls _ _ l0 t106 _ ?side1 ?side2 A4.out).mono ?_); (case side1 => repeat (first | exact HR0.out | (with_reducible refine Kd.C_alloc ?_ _) | (with_reducible refine Kd.C_drewN ?_ _) | (with_reducible refine Kd.C_drew ?_))); (case side2 => exact HC0.out); rintro e w38 ⟨rfl, hb⟩; have n0_ := Aside0.mk (below_step (by repeat (first | (with_reducible first | exact HB.out | apply below_alloc | apply pw_below_drewN | apply below_drew1) | exact HB.out)) hb); clear HB; have HB := n0_; clear n0_; (try clear hb); (try clear hb2); (try clear hk); (try clear hi)) | (go_at_call 24; (with_reducible refine (sample_Check.calls _ _ l1 t107 _ ?side1 ?side2 A6.out).mono ?_); (case side1 => repeat (first | exact (Kd.C_below HR1.out HB.out) | (with_reducible refine Kd.C_alloc ?_ _) | (with_reducible refine Kd.C_drewN ?_ _) | (with_reducible refine Kd.C_drew ?_))); (case side2 => exact HC1.out); rintro e w39 ⟨rfl, hb⟩; have n0_ := Aside0.mk (below_step (by repeat (first | (with_reducible first | exact HB.out | apply below_alloc | apply pw_below_drewN | apply below_drew1) | exact HB.out)) hb); clear HB; have HB := n0_; clear n0_; (try clear hb); (try clear hb2); (try clear hk); (try clear hi)))
    repeat (go_quiet (first | (go_at_call 24; (with_reducible refine (sample_Check.calls _ _ l0 t106 _ ?side1 ?side2 A4.out).mono ?_); (case side1 => repeat (first | exact HR0.out | (with_reducible refine Kd.C_alloc ?_ _) | (with_reducible refine Kd.C_drewN ?_ _) | (with_reducible refine Kd.C_drew ?_))); (case side2 => exact HC0.out); rintro e w38 ⟨rfl, hb⟩; have n0_ := Aside0.mk (below_step (by repeat (first | (with_reducible first | exact HB.out | apply below_alloc | apply pw_below_drewN | apply below_drew1) | exact HB.out)) hb); clear HB; have HB := n0_; clear n0_; (try clear hb); (try clear hb2); (try clear hk); (try clear hi)) | (go_at_call 24; (with_reducible refine (sample_Check.calls _ _ l1 t107 _ ?side1 ?side2 A6.out).mono ?_); (case side1 => repeat (first | exact (Kd.C_below HR1.out HB.out) | (with_reducible refine Kd.C_alloc ?_ _) | (with_reducible refine Kd.C_drewN ?_ _) | (with_reducible refine Kd.C_drew ?_))); (case side2 => exact HC1.out); rintro e w39 ⟨rfl, hb⟩; have n0_ := Aside0.mk (below_step (by repeat (first | (with_reducible first | exact HB.out | apply below_alloc | apply pw_below_drewN | apply below_drew1) | exact HB.out)) hb); clear HB; have HB := n0_; clear n0_; (try clear hb); (try clear hb2); (try clear hk); (try clear hi))); try go_wp2_with (first | (go_at_call 24; (with_reducible refine (sample_Check.calls _ _ l0 t106 _ ?side1 ?side2 A4.out).mono ?_); (case side1 => repeat (first | exact HR0.out | (with_reducible refine Kd.C_alloc ?_ _) | (with_reducible refine Kd.C_drewN ?_ _) | (with_reducible refine Kd.C_drew ?_))); (case side2 => exact HC0.out); rintro e w38 ⟨rfl, hb⟩; have n0_ := Aside0.mk (below_step (by repeat (first | (with_reducible first | exact HB.out | apply below_alloc | apply pw_below_drewN | apply below_drew1) | exact HB.out)) hb); clear HB; have HB := n0_; clear n0_; (try clear hb); (try clear hb2); (try clear hk); (try clear hi)) | (go_at_call 24; (with_reducible refine (sample_Check.calls _ _ l1 t107 _ ?side1 ?side2 A6.out).mono ?_); (case side1 => repeat (first | exact (Kd.C_below HR1.out HB.out) | (with_reducible refine Kd.C_alloc ?_ _) | (with_reducible refine Kd.C_drewN ?_ _) | (with_reducible refine Kd.C_drew ?_))); (case side2 => exact HC1.out); rintro e w39 ⟨rfl, hb⟩; have n0_ := Aside0.mk (below_step (by repeat (first | (with_reducible first | exact HB.out | apply below_alloc | apply pw_below_drewN | apply below_drew1) | exact HB.out)) hb); clear HB; have HB := n0_; clear n0_; (try clear hb); (try clear hb2); (try clear hk); (try clear hi))))
    go_ret2
    exact ⟨_, by first | rfl | (simp [errW_none, errW_some] <;> rfl) | (simp [*, errW_none, errW_some] <;> rfl), by first | exact Kd.R_nil _ _ _ _ _ | exact Kd.N_nil _ _ _ _ _ | exact Kd.V_nil _ _ _ _ _ | exact Kd.Q_nil _ _ _ _ _ | exact Kd.S_nil _ _ _ _ _, by repeat (first | (with_reducible first | exact HB.out | apply below_alloc | apply pw_below_drewN | apply below_drew1) | exact HB.out)⟩
  rw [if_pos c7] at H
  have c7b0 : (t107 == 0) = true := beq_iff_eq.mpr c7
  have c7b1 : (t107 != 0) = false := bne_eq_false_iff_eq.mpr c7
  clear c7
  have HC8 := Aside0.mk H
  clear H
  go_enter Try.func10, Try.ntmps10
  go_upto_region 7 with (first | (go_at_call 24; (with_reducible refine (sample_Check.calls _ _ l0 t106 _ ?side1 ?side2 A4.out).mono ?_); (case side1 => repeat (first | exact HR0.out | (with_reducible refine Kd.C_alloc ?_ _) | (with_reducible refine Kd.C_drewN ?_ _) | (with_reducible refine Kd.C_drew ?_))); (case side2 => exact HC0.out); rintro e w9 ⟨rfl, hb⟩; have n0_ := Aside0.mk (below_step (by repeat (first | (with_reducible first | exact HB.out | apply below_alloc | apply pw_below_drewN | apply below_drew1) | exact HB.out)) hb); clear HB; have HB := n0_; clear n0_; (try clear hb); (try clear hb2); (try clear hk); (try clear hi)) | (go_at_call 24; (with_reducible refine (sample_Check.calls _ _ l1 t107 _ ?side1 ?side2 A6.out).mono ?_); (case side1 => repeat (first | exact (Kd.C_below HR1.out HB.out) | (with_reducible refine Kd.C_alloc ?_ _) | (with_reducible refine Kd.C_drewN ?_ _) | (with_reducible refine Kd.C_drew ?_))); (case side2 => exact HC1.out); rintro e w10 ⟨rfl, hb⟩; have n0_ := Aside0.mk (below_step (by repeat (first | (with_reducible first | exact HB.out | apply below_alloc | apply pw_below_drewN | apply below_drew1) | exact HB.out)) hb); clear HB; have HB := n0_; clear n0_; (try clear hb); (try clear hb2); (try clear hk); (try clear hi)))
  repeat (go_quiet (first | (go_at_call 24; (with_reducible refine (sample_Check.calls _ _ l0 t106 _ ?side1 ?side2 A4.out).mono ?_); (case side1 => repeat (first | exact HR0.out | (with_reducible refine Kd.C_alloc ?_ _) | (with_reducible refine Kd.C_drewN ?_ _) | (with_reducible refine Kd.C_drew ?_))); (case side2 => exact HC0.out); rintro e w9 ⟨rfl, hb⟩; have n0_ := Aside0.mk (below_step (by repeat (first | (with_reducible first | exact HB.out | apply below_alloc | apply pw_below_drewN | apply below_drew1) | exact HB.out)) hb); clear HB; have HB := n0_; clear n0_; (try clear hb); (try clear hb2); (try clear hk); (try clear hi)) | (go_at_call 24; (with_reducible refine (sample_Check.calls _ _ l1 t107 _ ?side1 ?side2 A6.out).mono ?_); (case side1 => repeat (first | exact (Kd.C_below HR1.out HB.out) | (with_reducible refine Kd.C_alloc ?_ _) | (with_reducible refine Kd.C_drewN ?_ _) | (with_reducible refine Kd.C_drew ?_))); (case side2 => exact HC1.out); rintro e w10 ⟨rfl, hb⟩; have n0_ := Aside0.mk (below_step (by repeat (first | (with_reducible first | exact HB.out | apply below_alloc | apply pw_below_drewN | apply below_drew1) | exact HB.out)) hb); clear HB; have HB := n0_; clear n0_; (try clear hb); (try clear hb2); (try clear hk); (try clear hi))); go_upto_region 7 with (first | (go_at_call 24; (with_reducible refine (sample_Check.calls _ _ l0 t106 _ ?side1 ?side2 A4.out).mono ?_); (case side1 => repeat (first | exact HR0.out | (with_reducible refine Kd.C_alloc ?_ _) | (with_reducible refine Kd.C_drewN ?_ _) | (with_reducible refine Kd.C_drew ?_))); (case side2 => exact HC0.out); rintro e w9 ⟨rfl, hb⟩; have n0_ := Aside0.mk (below_step (by repeat (first | (with_reducible first | exact HB.out | apply below_alloc | apply pw_below_drewN | apply below_drew1) | exact HB.out)) hb); clear HB; have HB := n0_; clear n0_; (try clear hb); (try clear hb2); (try clear hk); (try clear hi)) | (go_at_call 24; (with_reducible refine (sample_Check.calls _ _ l1 t107 _ ?side1 ?side2 A6.out).mono ?_); (case side1 => repeat (first | exact (Kd.C_below HR1.out HB.out) | (with_reducible refine Kd.C_alloc ?_ _) | (with_reducible refine Kd.C_drewN ?_ _) | (with_reducible refine Kd.C_drew ?_))); (case side2 => exact HC1.out); rintro e w10 ⟨rfl, hb⟩; have n0_ := Aside0.mk (below_step (by repeat (first | (with_reducible first | exact HB.out | apply below_alloc | apply pw_below_drewN | apply below_drew1) | exact HB.out)) hb); clear HB; have HB := n0_; clear n0_; (try clear hb); (try clear hb2); (try clear hk); (try clear hi))))
  (try simp only [Act.put, List.setIfInBounds_toArray, List.set_cons_zero, List.set_cons_succ])
  go_cut [30] (fun v30 wc => ∃ (kq : Nat) (x30_7 : Bool), v30 = .bool x30_7 ∧ Aside0 (lag_Of.j0 kq l0 l1 a2 x30_7 = some (r1, r2)) ∧ Aside0 (kq ≤ k) ∧ Aside0 (Below w.heap.size w wc))
  case first =>
    have H := HC8.out
    clear HC8
    by_cases c11 : a2 < 0
    · rw [if_pos c11] at H
      have c11b0 : decide (a2 < 0) = true := decide_eq_true c11
      clear c11
      (first | rw [c11b0] | (simp only [i64_w, i32_w]; rw [c11b0]) | skip)
      have H' := Aside0.mk H
      clear H
      go_wp2
      repeat (go_quiet (fail); try go_wp2)
      go_meet
      case rel => exact ⟨_, (true), (by first | rfl | (simp; done) | (simp [*]; done)), H', ⟨by first | omega | exact Nat.le_refl _⟩, ⟨by repeat (first | (with_reducible first | exact HB.out | apply below_alloc | apply pw_below_drewN | apply below_drew1) | exact HB.out)⟩⟩
    rw [if_neg c11] at H
    have c11b0 : decide (a2 < 0) = false := decide_eq_false c11
    clear c11
    (first | rw [c11b0] | (simp only [i64_w, i32_w]; rw [c11b0]) | skip)
    have H' := Aside0.mk H
    clear H
    go_wp2
    repeat (go_quiet (fail); try go_wp2)
    go_meet
    case rel => exact ⟨_, (decide (a2 > 255)), (by first | rfl | (simp; done) | (simp [*]; done)), H', ⟨by first | omega | exact Nat.le_refl _⟩, ⟨by repeat (first | (with_reducible first | exact HB.out | apply below_alloc | apply pw_below_drewN | apply below_drew1) | exact HB.out)⟩⟩
  case rest =>
    clear HC8
    try clear c1
    try clear p2
    try clear c5
    try clear c5b0
    try clear c5b1
    try clear c7
    try clear c7b0
    try clear c7b1
    try clear c10
    try clear c11
    try clear c11b0
    obtain ⟨kq, x30_7, rfl, HA, HJ7, HB⟩ := hcut
    cases kq with
    | zero => exact absurd HA.out (by simp [lag_Of.j0])
    | succ kj7 =>
      have H := HA.out
      clear HA
      simp only [lag_Of.j0] at H
      by_cases c12 : x30_7 = true
      · subst c12
        have H1 : (some (([] : List (S39)), 2)) = some (r1, r2) := by rw [if_pos rfl] at H; exact H
        clear H
        have H := H1
        clear H1
        simp only [Option.some.injEq, Prod.mk.injEq] at H
        obtain ⟨rfl, rfl⟩ := H
        go_wp2
        repeat (go_quiet (fail); try go_wp2)
        go_ret2
        exact ⟨_, by first | rfl | (simp [errW_none, errW_some] <;> rfl) | (simp [*, errW_none, errW_some] <;> rfl), by first | exact Kd.R_nil _ _ _ _ _ | exact Kd.N_nil _ _ _ _ _ | exact Kd.V_nil _ _ _ _ _ | exact Kd.Q_nil _ _ _ _ _ | exact Kd.S_nil _ _ _ _ _, by repeat (first | (with_reducible first | exact HB.out | apply below_alloc | apply pw_below_drewN | apply below_drew1) | exact HB.out)⟩
      replace c12 := Bool.eq_false_iff.mpr c12
      subst c12
      have H1 : (if 0 ≤ (wrap64 ((wrap64 (2 * a2)) + 1)) then (if (wrap64 ((wrap64 (2 * a2)) + 1) : Int).toNat ≤ 17592186044416 then ((some (List.replicate (wrap64 ((wrap64 (2 * a2)) + 1) : Int).toNat z39 : List (S39))).bind fun y108 => (lag_Of.l0 kj7 l0 l1 a2 y108 (y108.length : Int) 0)) else (none)) else (none)) = some (r1, r2) := by rw [if_neg (show ¬ (false = true) by decide)] at H; exact H
      clear H
      have H := H1
      clear H1
      obtain ⟨ji13, hji13⟩ : ∃ j_ : Int, (wrap64 ((wrap64 (2 * a2)) + 1)) = j_ := ⟨_, rfl⟩
      replace H : (if 0 ≤ (ji13) then (if (ji13 : Int).toNat ≤ 17592186044416 then ((some (List.replicate (ji13 : Int).toNat z39 : List (S39))).bind fun y108 => (lag_Of.l0 kj7 l0 l1 a2 y108 (y108.length : Int) 0)) else (none)) else (none)) = some (r1, r2) := by first | (rw [hji13] at H; exact H) | (simp only [hji13] at H ⊢; exact H)
      have hji13w : (IntKind.i64.wrap ((wrap64 (2 * a2)) + 1)) = ji13 := (i64_w _).trans hji13
      by_cases c14 : 0 ≤ (ji13)
      rotate_left
      · rw [if_neg c14] at H
        exact absurd H (by simp)
      rw [if_pos c14] at H
      have c14b0 := eq_true c14
      have c14b1 : decide (0 ≤ (ji13)) = true := decide_eq_true c14
      clear c14
      by_cases c15 : (ji13 : Int).toNat ≤ 17592186044416
      rotate_left
      · rw [if_neg c15] at H
        exact absurd H (by simp)
      rw [if_pos c15] at H
      have c15b0 := eq_true c15
      have c15b1 : decide ((ji13 : Int).toNat ≤ 17592186044416) = true := decide_eq_true c15
      clear c15
      obtain ⟨y108, hy108⟩ : ∃ y_ : List (S39), y_ = (List.replicate (ji13 : Int).toNat z39) := ⟨_, rfl⟩
      replace H : (lag_Of.l0 kj7 l0 l1 a2 y108 (y108.length : Int) 0) = some (r1, r2) := by first | (rw [hy108]; with_reducible exact H) | (have H2_ := (Option.bind_some _ _).symm.trans H; rw [hy108]; with_reducible exact H2_) | (have H2_ := (Option.bind_some _ _).symm.trans H; with_reducible exact H2_) | with_reducible exact H | (rw [hy108]; exact H) | exact H
      have Ny108 := Aside0.mk hy108
      clear hy108
      have H' := Aside0.mk H
      clear H
      go_wp2_with (first | ((with_reducible refine gate_dst (N := 34) rfl ?_); (try (refine gate_guard (by rfl) ?_; dsimp only)); refine Kd.R_make k39 _ 39 rfl (N := 34) rfl 24 _ _ rfl ji13 rfl rfl Try.underlying24 (.agg #[(.int .i64 0), (.int .i64 0)]) 16 info39 rfl (by decide) (by omega) z39 (ok := fun _ => True) (okp := fun _ => True) (k39_mkM _ _ _ z39 ) (fun _ hk => hk) trivial (of_decide_eq_true (by first | (with_reducible assumption) | assumption)) (Nat.le_trans (Nat.mul_le_mul_right _ (of_decide_eq_true (by first | (with_reducible assumption) | assumption) : ji13.toNat ≤ 17592186044416)) (by omega)) (Below.refl _ _) (Nat.le_refl _) ?_; intro v109 w16 ho17 hb hg_ hnew_; clear hg_ hnew_; (first | rw [← Ny108.out] at ho17 | (simp only [Int.reduceToNat] at ho17; rw [← Ny108.out] at ho17)); have n0_ := Aside0.mk (Kd.R_lower ho17 (below_size (by repeat (first | (with_reducible first | exact HB.out | apply below_alloc | apply pw_below_drewN | apply below_drew1) | exact HB.out)))); have n1_ := Aside0.mk (below_step (by repeat (first | (with_reducible first | exact HB.out | apply below_alloc | apply pw_below_drewN | apply below_drew1) | exact HB.out)) hb); clear HB; have HO110 := n0_; have HB := n1_; clear n0_ n1_; clear hb ho17; obtain ⟨Ao18, co18, eo18⟩ := Kd.R_slice HO110.out; subst eo18))
      repeat (go_quiet (first | ((with_reducible refine gate_dst (N := 34) rfl ?_); (try (refine gate_guard (by rfl) ?_; dsimp only)); refine Kd.R_make k39 _ 39 rfl (N := 34) rfl 24 _ _ rfl ji13 rfl rfl Try.underlying24 (.agg #[(.int .i64 0), (.int .i64 0)]) 16 info39 rfl (by decide) (by omega) z39 (ok := fun _ => True) (okp := fun _ => True) (k39_mkM _ _ _ z39 ) (fun _ hk => hk) trivial (of_decide_eq_true (by first | (with_reducible assumption) | assumption)) (Nat.le_trans (Nat.mul_le_mul_right _ (of_decide_eq_true (by first | (with_reducible assumption) | assumption) : ji13.toNat ≤ 17592186044416)) (by omega)) (Below.refl _ _) (Nat.le_refl _) ?_; intro v109 w16 ho17 hb hg_ hnew_; clear hg_ hnew_; (first | rw [← Ny108.out] at ho17 | (simp only [Int.reduceToNat] at ho17; rw [← Ny108.out] at ho17)); have n0_ := Aside0.mk (Kd.R_lower ho17 (below_size (by repeat (first | (with_reducible first | exact HB.out | apply below_alloc | apply pw_below_drewN | apply below_drew1) | exact HB.out)))); have n1_ := Aside0.mk (below_step (by repeat (first | (with_reducible first | exact HB.out | apply below_alloc | apply pw_below_drewN | apply below_drew1) | exact HB.out)) hb); clear HB; have HO110 := n0_; have HB := n1_; clear n0_ n1_; clear hb ho17; obtain ⟨Ao18, co18, eo18⟩ := Kd.R_slice HO110.out; subst eo18)); try go_wp2_with (first | ((with_reducible refine gate_dst (N := 34) rfl ?_); (try (refine gate_guard (by rfl) ?_; dsimp only)); refine Kd.R_make k39 _ 39 rfl (N := 34) rfl 24 _ _ rfl ji13 rfl rfl Try.underlying24 (.agg #[(.int .i64 0), (.int .i64 0)]) 16 info39 rfl (by decide) (by omega) z39 (ok := fun _ => True) (okp := fun _ => True) (k39_mkM _ _ _ z39 ) (fun _ hk => hk) trivial (of_decide_eq_true (by first | (with_reducible assumption) | assumption)) (Nat.le_trans (Nat.mul_le_mul_right _ (of_decide_eq_true (by first | (with_reducible assumption) | assumption) : ji13.toNat ≤ 17592186044416)) (by omega)) (Below.refl _ _) (Nat.le_refl _) ?_; intro v109 w16 ho17 hb hg_ hnew_; clear hg_ hnew_; (first | rw [← Ny108.out] at ho17 | (simp only [Int.reduceToNat] at ho17; rw [← Ny108.out] at ho17)); have n0_ := Aside0.mk (Kd.R_lower ho17 (below_size (by repeat (first | (with_reducible first | exact HB.out | apply below_alloc | apply pw_below_drewN | apply below_drew1) | exact HB.out)))); have n1_ := Aside0.mk (below_step (by repeat (first | (with_reducible first | exact HB.out | apply below_alloc | apply pw_below_drewN | apply below_drew1) | exact HB.out)) hb); clear HB; have HO110 := n0_; have HB := n1_; clear n0_ n1_; clear hb ho17; obtain ⟨Ao18, co18, eo18⟩ := Kd.R_slice HO110.out; subst eo18)))
      go_loopg [37] kj7 (fun kq v37 w' => ∃ (x10_2 : List (S39)) (x37_2 : Int), v37 = .int .i64 x37_2 ∧ Aside0 (lag_Of.l0 kq l0 l1 a2 x10_2 (y108.length : Int) x37_2 = some (r1, r2)) ∧ Aside0 (kq ≤ kj7) ∧ Aside0 (Kd.R k39 39 w' w.heap.size (fun _ => True) (.slice Ao18 y108.length co18) x10_2) ∧ Aside0 (Below w.heap.size w w'))
      case atStart => exact ⟨(y108), (0), (by first | rfl | (simp; done) | (simp [*]; done)), H', ⟨Nat.le_refl _⟩, ⟨by (with_reducible repeat (first | apply Kd.R_alloc | apply Kd.R_drewN | apply Kd.R_drew)); exact HO110.out⟩, ⟨by repeat (first | (with_reducible first | exact HB.out | apply below_alloc | apply pw_below_drewN | apply below_drew1) | exact HB.out)⟩⟩
      case round =>
        clear H'
        try clear c1
        try clear p2
        try clear c5
        try clear c5b0
        try clear c5b1
        try clear p6
        try clear c7
        try clear c7b0
        try clear c7b1
        try clear c10
        try clear c11
        try clear c11b0
        try clear c12
        try clear c14
        try clear c14b0
        try clear c14b1
        try clear c15
        try clear c15b0
        try clear c15b1
        try clear p2
        obtain ⟨x10_2, x37_2, rfl, HA, HK2, HO_10, HB⟩ := hrel
        have hl10_2 := (Kd.R_reads' HO_10.out).1
        rw [hl10_2] at HO_10
        (try simp only [hl10_2])
        cases gk with
        | zero => exact absurd HA.out (by simp [lag_Of.l0])
        | succ k2 =>
          have H := HA.out
          clear HA
          simp only [lag_Of.l0] at H
          by_cases c19 : x37_2 < (y108.length : Int)
          rotate_left
          · rw [if_neg c19] at H
            have c19b0 : decide (x37_2 < (y108.length : Int)) = false := decide_eq_false c19
            (try rw [hl10_2] at c19b0)
            (try rw [hl10_3] at c19b0)
            clear c19
            simp only [Option.some.injEq, Prod.mk.injEq] at H
            obtain ⟨rfl, rfl⟩ := H
            go_wp2
            repeat (go_quiet (fail); try go_wp2)
            go_ret2
            exact ⟨_, by first | rfl | (simp [errW_none, errW_some] <;> rfl) | (simp only [← hji13]; first | rfl | (simp [errW_none, errW_some] <;> rfl)) | (simp [*, errW_none, errW_some] <;> rfl), by (with_reducible repeat (first | apply Kd.R_alloc | apply Kd.R_drewN | apply Kd.R_drew)); exact HO_10.out, by repeat (first | (with_reducible first | exact HB.out | apply below_alloc | apply pw_below_drewN | apply below_drew1) | exact HB.out)⟩
          rw [if_pos c19] at H
          have c19b0 : decide (x37_2 < (y108.length : Int)) = true := decide_eq_true c19
          (try rw [hl10_2] at c19b0)
          (try rw [hl10_3] at c19b0)
          clear c19
          have H' := Aside0.mk H
          clear H
          go_wp2
          repeat (go_quiet (fail); try go_wp2)
          go_loopg [45] k2 (fun kq v45 w' => ∃ (x10_3 : List (S39)) (x45_3 : Int), v45 = .int .i64 x45_3 ∧ Aside0 (lag_Of.l1 kq l0 l1 a2 x10_3 x37_2 (wrap64 (x37_2 - a2)) (y108.length : Int) x37_2 (l0.length : Int) x45_3 = some (r1, r2)) ∧ Aside0 (kq ≤ k2) ∧ Aside0 (Kd.R k39 39 w' w.heap.size (fun _ => True) (.slice Ao18 x10_2.length co18) x10_3) ∧ Aside0 (Below w.heap.size w w'))
          case atStart => exact ⟨(x10_2), (0), (by first | rfl | (simp; done) | (simp [*]; done)), H', ⟨Nat.le_refl _⟩, ⟨by (try simp only [hl10_2]); (with_reducible repeat (first | apply Kd.R_alloc | apply Kd.R_drewN | apply Kd.R_drew)); exact HO_10.out⟩, ⟨by repeat (first | (with_reducible first | exact HB.out | apply below_alloc | apply pw_below_drewN | apply below_drew1) | exact HB.out)⟩⟩
          case round =>
            clear H'
            try clear c1
            try clear p2
            try clear c5
            try clear c5b0
            try clear c5b1
            try clear p6
            try clear c7
            try clear c7b0
            try clear c7b1
            try clear c10
            try clear c11
            try clear c11b0
            try clear c12
            try clear c14
            try clear c14b0
            try clear c14b1
            try clear c15
            try clear c15b0
            try clear c15b1
            try clear c19
            try clear c19b0
            try clear p2
            try clear p6
            obtain ⟨x10_3, x45_3, rfl, HA, HK3, HO_10, HB⟩ := hrel
            have hl10_3 := (Kd.R_reads' HO_10.out).1
            rw [hl10_3] at HO_10
            (try simp only [hl10_3])
            cases gk with
            | zero => exact absurd HA.out (by simp [lag_Of.l1])
            | succ k3 =>
              have H := HA.out
              clear HA
              simp only [lag_Of.l1] at H
              by_cases c20 : x45_3 < (l0.length : Int)
              rotate_left
              · rw [if_neg c20] at H
                have c20b0 : decide (x45_3 < (l0.length : Int)) = false := decide_eq_false c20
                clear c20
                have H' := Aside0.mk H
                clear H
                go_wp2
                repeat (go_quiet (fail); try go_wp2)
                (try simp only [← hl10_2, ← hl10_3])
                go_roundg k3
                case measure => have := HJ7.out; have := HK2.out; have := HK3.out; omega
                case rel => exact ⟨(x10_3), (wrap64 (x37_2 + 1)), (by first | rfl | (simp; done) | (simp [*]; done)), H', ⟨by have := HJ7.out; have := HK2.out; have := HK3.out; omega⟩, ⟨by (try simp only [hl10_2]); (try simp only [hl10_3]); (with_reducible repeat (first | apply Kd.R_alloc | apply Kd.R_drewN | apply Kd.R_drew)); exact HO_10.out⟩, ⟨by repeat (first | (with_reducible first | exact HB.out | apply below_alloc | apply pw_below_drewN | apply below_drew1) | exact HB.out)⟩⟩
              rw [if_pos c20] at H
              have c20b0 : decide (x45_3 < (l0.length : Int)) = true := decide_eq_true c20
              clear c20
              have HC21 := Aside0.mk H
              clear H
              go_upto_region 17 with (fail)
              repeat (go_quiet (fail); go_upto_region 17 with (fail))
              go_cut [59] (fun v59 wc => ∃ (kq : Nat) (x59_20 : Bool), v59 = .bool x59_20 ∧ Aside0 (lag_Of.j3 kq l0 l1 a2 x10_3 x37_2 (wrap64 (x37_2 - a2)) x45_3 (y108.length : Int) x37_2 (l0.length : Int) x45_3 x59_20 = some (r1, r2)) ∧ Aside0 (kq ≤ k3) ∧ Aside0 (Kd.R k39 39 wc w.heap.size (fun _ => True) (.slice Ao18 x10_3.length co18) x10_3) ∧ Aside0 (Below w.heap.size w wc))
              case first =>
                have H := HC21.out
                clear HC21
                by_cases c22 : (wrap64 (x45_3 + (wrap64 (x37_2 - a2)))) < 0
                · rw [if_pos c22] at H
                  have c22b0 : decide ((wrap64 (x45_3 + (wrap64 (x37_2 - a2)))) < 0) = true := decide_eq_true c22
                  clear c22
                  (first | rw [c22b0] | (simp only [i64_w, i32_w]; rw [c22b0]) | skip)
                  have H' := Aside0.mk H
                  clear H
                  go_wp2
                  repeat (go_quiet (fail); try go_wp2)
                  go_meet
                  case rel => exact ⟨_, (true), (by first | rfl | (simp; done) | (simp [*]; done)), H', ⟨by have := HJ7.out; have := HK2.out; have := HK3.out; first | omega | exact Nat.le_refl _⟩, ⟨by (try simp only [hl10_2]); (try simp only [hl10_3]); (with_reducible repeat (first | apply Kd.R_alloc | apply Kd.R_drewN | apply Kd.R_drew)); exact HO_10.out⟩, ⟨by repeat (first | (with_reducible first | exact HB.out | apply below_alloc | apply pw_below_drewN | apply below_drew1) | exact HB.out)⟩⟩
                rw [if_neg c22] at H
                have c22b0 : decide ((wrap64 (x45_3 + (wrap64 (x37_2 - a2)))) < 0) = false := decide_eq_false c22
                clear c22
                (first | rw [c22b0] | (simp only [i64_w, i32_w]; rw [c22b0]) | skip)
                have H' := Aside0.mk H
                clear H
                go_wp2
                repeat (go_quiet (fail); try go_wp2)
                go_meet
                case rel => exact ⟨_, (decide ((wrap64 (x45_3 + (wrap64 (x37_2 - a2)))) ≥ (l1.length : Int))), (by first | rfl | (simp; done) | (simp [*]; done)), H', ⟨by have := HJ7.out; have := HK2.out; have := HK3.out; first | omega | exact Nat.le_refl _⟩, ⟨by (try simp only [hl10_2]); (try simp only [hl10_3]); (with_reducible repeat (first | apply Kd.R_alloc | apply Kd.R_drewN | apply Kd.R_drew)); exact HO_10.out⟩, ⟨by repeat (first | (with_reducible first | exact HB.out | apply below_alloc | apply pw_below_drewN | apply below_drew1) | exact HB.out)⟩⟩
              case rest =>
                clear HC21
                try clear c1
                try clear c2
                try clear p2
                try clear c5
                try clear c5b0
                try clear c5b1
                try clear p6
                try clear c7
                try clear c7b0
                try clear c7b1
                try clear c10
                try clear c11
                try clear c11b0
                try clear c12
                try clear c14
                try clear c14b0
                try clear c14b1
                try clear c15
                try clear c15b0
                try clear c15b1
                try clear c19
                try clear c19b0
                try clear c20
                try clear c20b0
                try clear c22
                try clear c22b0
                try clear p2
                try clear p6
                obtain ⟨kq, x59_20, rfl, HA, HJ20, HO_10, HB⟩ := hcut
                cases kq with
                | zero => exact absurd HA.out (by simp [lag_Of.j3])
                | succ kj20 =>
                  have H := HA.out
                  clear HA
                  simp only [lag_Of.j3] at H
                  by_cases c23 : x59_20 = true
                  · subst c23
                    have H1 : (lag_Of.l1 kj20 l0 l1 a2 x10_3 x37_2 (wrap64 (x37_2 - a2)) (y108.length : Int) x37_2 (l0.length : Int) (wrap64 (x45_3 + 1))) = some (r1, r2) := by rw [if_pos rfl] at H; exact H
                    clear H
                    have H := H1
                    clear H1
                    have H' := Aside0.mk H
                    clear H
                    go_wp2
                    repeat (go_quiet (fail); try go_wp2)
                    (try simp only [← hl10_3])
                    go_roundg kj20
                    case measure => have := HJ7.out; have := HK2.out; have := HK3.out; have := HJ20.out; omega
                    case rel => exact ⟨(x10_3), (wrap64 (x45_3 + 1)), (by first | rfl | (simp; done) | (simp [*]; done)), H', ⟨by have := HJ7.out; have := HK2.out; have := HK3.out; have := HJ20.out; omega⟩, ⟨by (try simp only [hl10_2]); (try simp only [hl10_3]); (with_reducible repeat (first | apply Kd.R_alloc | apply Kd.R_drewN | apply Kd.R_drew)); exact HO_10.out⟩, ⟨by repeat (first | (with_reducible first | exact HB.out | apply below_alloc | apply pw_below_drewN | apply below_drew1) | exact HB.out)⟩⟩
                  replace c23 := Bool.eq_false_iff.mpr c23
                  subst c23
                  have H1 : (if 0 ≤ x45_3 then (if x45_3 < (l0.length : Int) then (if 0 ≤ (wrap64 (x45_3 + (wrap64 (x37_2 - a2)))) then (if (wrap64 (x45_3 + (wrap64 (x37_2 - a2)))) < (l1.length : Int) then (if (wrap64 ((rd l0 x45_3) * (rd l1 (wrap64 (x45_3 + (wrap64 (x37_2 - a2))))))) = 0 then (lag_Of.l1 kj20 l0 l1 a2 x10_3 x37_2 (wrap64 (x37_2 - a2)) (y108.length : Int) x37_2 (l0.length : Int) (wrap64 (x45_3 + 1))) else (if 0 ≤ x37_2 then (if x37_2 < (x10_3.length : Int) then ((some (x10_3.set (x37_2 : Int).toNat (⟨wrap64 (((rd_T39 x10_3 x37_2).f0) + (wrap64 ((rd l0 x45_3) * (rd l1 (wrap64 (x45_3 + (wrap64 (x37_2 - a2)))))))), (rd_T39 x10_3 x37_2).f1⟩ : S39) : List (S39))).bind fun y114 => (lag_Of.l1 kj20 l0 l1 a2 (y114.set (x37_2 : Int).toNat (⟨(rd_T39 y114 x37_2).f0, wrap64 (((rd_T39 y114 x37_2).f1) + 1)⟩ : S39)) x37_2 (wrap64 (x37_2 - a2)) (y108.length : Int) x37_2 (l0.length : Int) (wrap64 (x45_3 + 1)))) else (none)) else (none))) else (none)) else (none)) else (none)) else (none)) = some (r1, r2) := by rw [if_neg (show ¬ (false = true) by decide)] at H; exact H
                  clear H
                  have H := H1
                  clear H1
                  by_cases c24 : 0 ≤ x45_3
                  rotate_left
                  · rw [if_neg c24] at H
                    exact absurd H (by simp)
                  rw [if_pos c24] at H
                  have c24b0 : decide (0 ≤ x45_3) = true := decide_eq_true c24
                  clear c24
                  by_cases c25 : x45_3 < (l0.length : Int)
                  rotate_left
                  · rw [if_neg c25] at H
                    exact absurd H (by simp)
                  rw [if_pos c25] at H
                  have c25b0 : decide (x45_3 < (l0.length : Int)) = true := decide_eq_true c25
                  clear c25
                  obtain ⟨ji26, hji26⟩ : ∃ j_ : Int, (wrap64 (x45_3 + (wrap64 (x37_2 - a2)))) = j_ := ⟨_, rfl⟩
                  replace H : (if 0 ≤ (ji26) then (if (ji26) < (l1.length : Int) then (if (wrap64 ((rd l0 x45_3) * (rd l1 (ji26)))) = 0 then (lag_Of.l1 kj20 l0 l1 a2 x10_3 x37_2 (wrap64 (x37_2 - a2)) (y108.length : Int) x37_2 (l0.length : Int) (wrap64 (x45_3 + 1))) else (if 0 ≤ x37_2 then (if x37_2 < (x10_3.length : Int) then ((some (x10_3.set (x37_2 : Int).toNat (⟨wrap64 (((rd_T39 x10_3 x37_2).f0) + (wrap64 ((rd l0 x45_3) * (rd l1 (ji26))))), (rd_T39 x10_3 x37_2).f1⟩ : S39) : List (S39))).bind fun y114 => (lag_Of.l1 kj20 l0 l1 a2 (y114.set (x37_2 : Int).toNat (⟨(rd_T39 y114 x37_2).f0, wrap64 (((rd_T39 y114 x37_2).f1) + 1)⟩ : S39)) x37_2 (wrap64 (x37_2 - a2)) (y108.length : Int) x37_2 (l0.length : Int) (wrap64 (x45_3 + 1)))) else (none)) else (none))) else (none)) else (none)) = some (r1, r2) := by first | (rw [hji26] at H; exact H) | (simp only [hji26] at H ⊢; exact H)
                  have hji26w : (IntKind.i64.wrap (x45_3 + (wrap64 (x37_2 - a2)))) = ji26 := (i64_w _).trans hji26
                  by_cases c27 : 0 ≤ (ji26)
                  rotate_left
                  · rw [if_neg c27] at H
                    exact absurd H (by simp)
                  rw [if_pos c27] at H
                  have c27b0 : decide (0 ≤ (ji26)) = true := decide_eq_true c27
                  clear c27
                  by_cases c28 : (ji26) < (l1.length : Int)
                  rotate_left
                  · rw [if_neg c28] at H
                    exact absurd H (by simp)
                  rw [if_pos c28] at H
                  have c28b0 : decide ((ji26) < (l1.length : Int)) = true := decide_eq_true c28
                  clear c28
                  by_cases c29 : (wrap64 ((rd l0 x45_3) * (rd l1 (ji26)))) = 0
                  · rw [if_pos c29] at H
                    have c29b0 : ((wrap64 ((rd l0 x45_3) * (rd l1 (ji26)))) == 0) = true := beq_iff_eq.mpr c29
                    have c29b1 : ((wrap64 ((rd l0 x45_3) * (rd l1 (ji26)))) != 0) = false := bne_eq_false_iff_eq.mpr c29
                    clear c29
                    have H' := Aside0.mk H
                    clear H
                    have p111 : 0 ≤ (x45_3 : Int) := of_decide_eq_true (by first | (with_reducible assumption) | assumption)
                    have q111 : x45_3 < (l0.length : Int) := of_decide_eq_true (by first | (with_reducible assumption) | assumption)
                    obtain ⟨ad111, e111, hx111_0⟩ := Kd.at_int HR0.out x45_3 p111 q111
                    cases e111
                    replace hx111_0 := (HB.out.cell (World.block_lt_of_cell? w _ hx111_0)).trans hx111_0
                    replace p111 := eq_true p111
                    replace q111 := eq_true q111
                    have p112 : 0 ≤ ((ji26) : Int) := of_decide_eq_true (by first | (with_reducible assumption) | assumption)
                    have q112 : (ji26) < (l1.length : Int) := of_decide_eq_true (by first | (with_reducible assumption) | assumption)
                    obtain ⟨ad112, e112, hx112_0⟩ := Kd.at_int HR1.out (ji26) p112 q112
                    cases e112
                    replace hx112_0 := (HB.out.cell (World.block_lt_of_cell? w _ hx112_0)).trans hx112_0
                    replace p112 := eq_true p112
                    replace q112 := eq_true q112
                    go_wp2
                    repeat (go_quiet (fail); try go_wp2)
                    (try simp only [← hl10_3])
                    go_roundg kj20
                    case measure => have := HJ7.out; have := HK2.out; have := HK3.out; have := HJ20.out; omega
                    case rel => exact ⟨(x10_3), (wrap64 (x45_3 + 1)), (by first | rfl | (simp; done) | (simp [*]; done)), H', ⟨by have := HJ7.out; have := HK2.out; have := HK3.out; have := HJ20.out; omega⟩, ⟨by (try simp only [hl10_2]); (try simp only [hl10_3]); (with_reducible repeat (first | apply Kd.R_alloc | apply Kd.R_drewN | apply Kd.R_drew)); exact HO_10.out⟩, ⟨by repeat (first | (with_reducible first | exact HB.out | apply below_alloc | apply pw_below_drewN | apply below_drew1) | exact HB.out)⟩⟩
                  rw [if_neg c29] at H
                  have c29b0 : ((wrap64 ((rd l0 x45_3) * (rd l1 (ji26)))) == 0) = false := beq_eq_false_iff_ne.mpr c29
                  have c29b1 : ((wrap64 ((rd l0 x45_3) * (rd l1 (ji26)))) != 0) = true := bne_iff_ne.mpr c29
                  by_cases c30 : 0 ≤ x37_2
                  rotate_left
                  · rw [if_neg c30] at H
                    exact absurd H (by simp)
                  rw [if_pos c30] at H
                  have c30b0 : decide (0 ≤ x37_2) = true := decide_eq_true c30
                  clear c30
                  by_cases c31 : x37_2 < (x10_3.length : Int)
                  rotate_left
                  · rw [if_neg c31] at H
                    exact absurd H (by simp)
                  rw [if_pos c31] at H
                  have c31b0 : decide (x37_2 < (x10_3.length : Int)) = true := decide_eq_true c31
                  clear c31
                  obtain ⟨y114, hy114⟩ : ∃ y_ : List (S39), y_ = (x10_3.set (x37_2 : Int).toNat (⟨wrap64 (((rd_T39 x10_3 x37_2).f0) + (wrap64 ((rd l0 x45_3) * (rd l1 (ji26))))), (rd_T39 x10_3 x37_2).f1⟩ : S39)) := ⟨_, rfl⟩
                  replace H : (lag_Of.l1 kj20 l0 l1 a2 (y114.set (x37_2 : Int).toNat (⟨(rd_T39 y114 x37_2).f0, wrap64 (((rd_T39 y114 x37_2).f1) + 1)⟩ : S39)) x37_2 (wrap64 (x37_2 - a2)) (y108.length : Int) x37_2 (l0.length : Int) (wrap64 (x45_3 + 1))) = some (r1, r2) := by first | (rw [hy114]; with_reducible exact H) | (have H2_ := (Option.bind_some _ _).symm.trans H; rw [hy114]; with_reducible exact H2_) | (have H2_ := (Option.bind_some _ _).symm.trans H; with_reducible exact H2_) | with_reducible exact H | (rw [hy114]; exact H) | exact H
                  have Ny114 := Aside0.mk hy114
                  clear hy114
                  obtain ⟨y116, hy116⟩ : ∃ y_ : List (S39), y_ = (y114.set (x37_2 : Int).toNat (⟨(rd_T39 y114 x37_2).f0, wrap64 (((rd_T39 y114 x37_2).f1) + 1)⟩ : S39)) := ⟨_, rfl⟩
                  replace H : (lag_Of.l1 kj20 l0 l1 a2 y116 x37_2 (wrap64 (x37_2 - a2)) (y108.length : Int) x37_2 (l0.length : Int) (wrap64 (x45_3 + 1))) = some (r1, r2) := by first | (rw [hy116]; with_reducible exact H) | (have H2_ := (Option.bind_some _ _).symm.trans H; rw [hy116]; with_reducible exact H2_) | (have H2_ := (Option.bind_some _ _).symm.trans H; with_reducible exact H2_) | with_reducible exact H | (rw [hy116]; exact H) | exact H
                  have Ny116 := Aside0.mk hy116
                  clear hy116
                  have H' := Aside0.mk H
                  clear H
                  have p111 : 0 ≤ (x45_3 : Int) := of_decide_eq_true (by first | (with_reducible assumption) | assumption)
                  have q111 : x45_3 < (l0.length : Int) := of_decide_eq_true (by first | (with_reducible assumption) | assumption)
                  obtain ⟨ad111, e111, hx111_0⟩ := Kd.at_int HR0.out x45_3 p111 q111
                  cases e111
                  replace hx111_0 := (HB.out.cell (World.block_lt_of_cell? w _ hx111_0)).trans hx111_0
                  replace p111 := eq_true p111
                  replace q111 := eq_true q111
                  have p112 : 0 ≤ ((ji26) : Int) := of_decide_eq_true (by first | (with_reducible assumption) | assumption)
                  have q112 : (ji26) < (l1.length : Int) := of_decide_eq_true (by first | (with_reducible assumption) | assumption)
                  obtain ⟨ad112, e112, hx112_0⟩ := Kd.at_int HR1.out (ji26) p112 q112
                  cases e112
                  replace hx112_0 := (HB.out.cell (World.block_lt_of_cell? w _ hx112_0)).trans hx112_0
                  replace p112 := eq_true p112
                  replace q112 := eq_true q112
                  have p113 : 0 ≤ (x37_2 : Int) := of_decide_eq_true (by first | (with_reducible assumption) | assumption)
                  have q113 : x37_2 < (x10_3.length : Int) := of_decide_eq_true (by first | (with_reducible assumption) | assumption)
                  obtain ⟨ad113, e113, hx113_0, hx113_1⟩ := at_T39 (Kd.R_reads' HO_10.out).2.2 x37_2 p113 q113
                  cases e113
                  replace p113 := eq_true p113
                  replace q113 := eq_true q113
                  have p32 : 0 ≤ (x37_2 : Int) := of_decide_eq_true (by first | (with_reducible assumption) | assumption)
                  have q32 : (x37_2 : Int) < ((x10_3.length : Int) : Int) := of_decide_eq_true (by first | (with_reducible assumption) | assumption)
                  obtain ⟨go32, co32, eo32, gb32, gl32, cl32, HG32⟩ := Kd.R_form HO_10.out (by omega)
                  (first | cases eo32 | (injection eo32 with ea_ en_ ec_; (first | subst ea_ | (injection ea_ with ea_; subst ea_)); subst ec_; clear en_))
                  have GB32 := Aside0.mk gb32
                  have GG32 := Aside0.mk HG32
                  clear gb32 gl32 HG32
                  (first | simp only [add_plain] at hx113_0 | skip)
                  (first | simp only [add_plain] at hx113_1 | skip)
                  obtain ⟨ce32, hcl32, hM32, hcc32, hfr32⟩ := Kd.R_elem HO_10.out z39 (x37_2 : Int) p32 q32
                  obtain rfl := k39_openM hM32
                  have hx32_0 : wc.cell? ⟨go32, (x37_2 : Int).toNat * 2, none⟩ = some (.int .i64 ((rd_T39 x10_3 x37_2).f0)) := hcc32 0 _ rfl
                  have hx32_1 : wc.cell? ⟨go32, (x37_2 : Int).toNat * 2 + 1, none⟩ = some (.int .i64 ((rd_T39 x10_3 x37_2).f1)) := hcc32 1 _ rfl
                  have hf32_0 : wc.frozen? ⟨go32, (x37_2 : Int).toNat * 2, none⟩ = false := hfr32 0
                  have hf32_1 : wc.frozen? ⟨go32, (x37_2 : Int).toNat * 2 + 1, none⟩ = false := hfr32 1
                  clear hcl32 hcc32 hfr32 hM32
                  replace p32 := eq_true p32
                  replace q32 := eq_true q32
                  have HX34 := Aside0.mk (show Kd.R k39 39 wc w.heap.size (fun _ => True) (.slice (some ⟨go32, 0, none⟩) x10_3.length co18) x10_3 from (by (with_reducible repeat (first | apply Kd.R_alloc | apply Kd.R_drewN | apply Kd.R_drew)); exact HO_10.out))
                  obtain ⟨ce34, hcl34, hM34, hcc34, hfr34⟩ := Kd.R_elem HX34.out z39 (x37_2 : Int) (of_decide_eq_true (by first | (with_reducible assumption) | assumption)) (by have h_ : (x37_2 : Int) < ((x10_3.length : Int) : Int) := of_decide_eq_true (by first | (with_reducible assumption) | assumption); first | exact h_ | (have e_ := (Kd.R_reads' HO_10.out).1; omega) | simpa using h_)
                  obtain rfl := k39_openM hM34
                  have HP34 := Kd.R_seg HX34.out (x37_2 : Int) (of_decide_eq_true (by first | (with_reducible assumption) | assumption)) (by have h_ : (x37_2 : Int) < ((x10_3.length : Int) : Int) := of_decide_eq_true (by first | (with_reducible assumption) | assumption); first | exact h_ | (have e_ := (Kd.R_reads' HO_10.out).1; omega) | simpa using h_) (seg := [.int .i64 (wrap64 (((rd_T39 x10_3 x37_2).f0) + (wrap64 ((rd l0 x45_3) * (rd l1 (ji26))))))]) (j := 0) hcl34 hcc34 (show 1 ≤ 2 from by decide) (x' := (⟨wrap64 (((rd_T39 x10_3 x37_2).f0) + (wrap64 ((rd l0 x45_3) * (rd l1 (ji26))))), (rd_T39 x10_3 x37_2).f1⟩ : S39)) (k39_mkM _ _ _ (⟨wrap64 (((rd_T39 x10_3 x37_2).f0) + (wrap64 ((rd l0 x45_3) * (rd l1 (ji26))))), (rd_T39 x10_3 x37_2).f1⟩ : S39) ) (fun _ hk => hk)
                  have hx34_0 := hcc34 0 _ rfl
                  (try simp only [show (k39).sz = 2 from rfl, Nat.mul_one, Nat.add_zero] at hx34_0)
                  have hf34_0 := hfr34 0
                  (try simp only [show (k39).sz = 2 from rfl, Nat.mul_one, Nat.add_zero] at hf34_0)
                  clear hcl34 hcc34 hfr34 hM34
                  go_wp2_with (first | ((with_reducible refine gate_store (t := 3) (p := 81) rfl ?_); (try (rw [drewN_self wc]; generalize hq_ : World.drewN wc _ = wc; have n0_ := Aside0.mk (Kd.R_at hq_ HO_10.out); have n1_ := Aside0.mk (below_at hq_ HB.out); clear hq_ HO_10 HB; have HO_10 := n0_; have HB := n1_; clear n0_ n1_; (try (have HX34 := Aside0.mk (show Kd.R k39 39 wc w.heap.size (fun _ => True) (.slice (some ⟨go32, 0, none⟩) x10_3.length co18) x10_3 from (by (with_reducible repeat (first | apply Kd.R_alloc | apply Kd.R_drewN | apply Kd.R_drew)); exact HO_10.out)))); (try (obtain ⟨ce34, hcl34, hM34, hcc34, hfr34⟩ := Kd.R_elem HX34.out z39 (x37_2 : Int) (of_decide_eq_true (by first | (with_reducible assumption) | assumption)) (by have h_ : (x37_2 : Int) < ((x10_3.length : Int) : Int) := of_decide_eq_true (by first | (with_reducible assumption) | assumption); first | exact h_ | (have e_ := (Kd.R_reads' HO_10.out).1; omega) | simpa using h_))); (try (obtain rfl := k39_openM hM34)); (try (have HP34 := Kd.R_seg HX34.out (x37_2 : Int) (of_decide_eq_true (by first | (with_reducible assumption) | assumption)) (by have h_ : (x37_2 : Int) < ((x10_3.length : Int) : Int) := of_decide_eq_true (by first | (with_reducible assumption) | assumption); first | exact h_ | (have e_ := (Kd.R_reads' HO_10.out).1; omega) | simpa using h_) (seg := [.int .i64 (wrap64 (((rd_T39 x10_3 x37_2).f0) + (wrap64 ((rd l0 x45_3) * (rd l1 (ji26))))))]) (j := 0) hcl34 hcc34 (show 1 ≤ 2 from by decide) (x' := (⟨wrap64 (((rd_T39 x10_3 x37_2).f0) + (wrap64 ((rd l0 x45_3) * (rd l1 (ji26))))), (rd_T39 x10_3 x37_2).f1⟩ : S39)) (k39_mkM _ _ _ (⟨wrap64 (((rd_T39 x10_3 x37_2).f0) + (wrap64 ((rd l0 x45_3) * (rd l1 (ji26))))), (rd_T39 x10_3 x37_2).f1⟩ : S39) ) (fun _ hk => hk))); (try (have hx34_0 := hcc34 0 _ rfl)); (try (try simp only [show (k39).sz = 2 from rfl, Nat.mul_one, Nat.add_zero] at hx34_0)); (try (have hf34_0 := hfr34 0)); (try (try simp only [show (k39).sz = 2 from rfl, Nat.mul_one, Nat.add_zero] at hf34_0)); (try (clear hcl34 hcc34 hfr34 hM34)))); refine store_event (t := 3) (p := 81) (v := ?vo_w35) (w1 := (wc.setCell ⟨go32, (x37_2 : Int).toNat * 2, none⟩ (.int .i64 (wrap64 (((rd_T39 x10_3 x37_2).f0) + (wrap64 ((rd l0 x45_3) * (rd l1 (ji26))))))))) ?hg ?ho ?hn ?hr ?_; (case ho => rfl); (case hg => rfl); (case hn => rfl); (case hr => first | (go_simp; done) | (go_simp; rfl)); intro w35 hw; have hg : wc.grownBy w35 (some go32) := (by rw [hw]; exact HP34.2); have hp_ : Kd.R k39 39 w35 w.heap.size (fun _ => True) (.slice (some ⟨go32, 0, none⟩) x10_3.length co18) y114 := (by rw [hw, Ny114.out]; exact HP34.1); clear HP34; have n0_ := Aside0.mk (hp_); have n1_ := Aside0.mk ((by rw [hw]; exact below_set (HB.out) GB32.out : Below w.heap.size w w35)); clear HO_10; clear HB; have HO_10 := n0_; have HB := n1_; clear n0_ n1_; clear hg hw hp_; have p115 : 0 ≤ (x37_2 : Int) := of_decide_eq_true (by first | (with_reducible assumption) | assumption); have q115 : x37_2 < (y114.length : Int) := (by have h_ : (x37_2 : Int) < ((x10_3.length : Int) : Int) := of_decide_eq_true (by first | (with_reducible assumption) | assumption); first | (have e_ := (Kd.R_reads' HO_10.out).1; omega) | simpa only [Ny114.out, List.length_set] using h_); have ql115 : ((x37_2 : Int) < ((x10_3.length : Int) : Int)) = True := eq_true (of_decide_eq_true (by first | (with_reducible assumption) | assumption)); obtain ⟨ad115, e115, hx115_0, hx115_1⟩ := at_T39 (Kd.R_reads' HO_10.out).2.2 x37_2 p115 q115; obtain rfl : (⟨go32, 0, none⟩ : Addr) = ad115 := (by injection e115); (first | simp only [add_plain] at hx115_0 | simp only [add_at] at hx115_0 | simp only [Addr.add, Nat.zero_add] at hx115_0 | skip); (first | simp only [add_plain] at hx115_1 | simp only [add_at] at hx115_1 | simp only [Addr.add, Nat.zero_add] at hx115_1 | skip); replace p115 := eq_true p115; replace q115 := eq_true q115; have p33 : 0 ≤ (x37_2 : Int) := of_decide_eq_true (by first | (with_reducible assumption) | assumption); have q33 : (x37_2 : Int) < ((x10_3.length : Int) : Int) := of_decide_eq_true (by first | (with_reducible assumption) | assumption); obtain ⟨ce33, hcl33, hM33, hcc33, hfr33⟩ := Kd.R_elem HO_10.out z39 (x37_2 : Int) p33 q33; obtain rfl := k39_openM hM33; have hx33_0 : w35.cell? ⟨go32, (x37_2 : Int).toNat * 2, none⟩ = some (.int .i64 ((rd_T39 y114 x37_2).f0)) := hcc33 0 _ rfl; have hx33_1 : w35.cell? ⟨go32, (x37_2 : Int).toNat * 2 + 1, none⟩ = some (.int .i64 ((rd_T39 y114 x37_2).f1)) := hcc33 1 _ rfl; have hf33_0 : w35.frozen? ⟨go32, (x37_2 : Int).toNat * 2, none⟩ = false := hfr33 0; have hf33_1 : w35.frozen? ⟨go32, (x37_2 : Int).toNat * 2 + 1, none⟩ = false := hfr33 1; clear hcl33 hcc33 hfr33 hM33; replace p33 := eq_true p33; replace q33 := eq_true q33; have HX36 := Aside0.mk (show Kd.R k39 39 w35 w.heap.size (fun _ => True) (.slice (some ⟨go32, 0, none⟩) x10_3.length co18) y114 from (by (with_reducible repeat (first | apply Kd.R_alloc | apply Kd.R_drewN | apply Kd.R_drew)); exact HO_10.out)); obtain ⟨ce36, hcl36, hM36, hcc36, hfr36⟩ := Kd.R_elem HX36.out z39 (x37_2 : Int) (of_decide_eq_true (by first | (with_reducible assumption) | assumption)) (by have h_ : (x37_2 : Int) < ((x10_3.length : Int) : Int) := of_decide_eq_true (by first | (with_reducible assumption) | assumption); first | exact h_ | (have e_ := (Kd.R_reads' HO_10.out).1; omega) | simpa using h_); obtain rfl := k39_openM hM36; have HP36 := Kd.R_seg HX36.out (x37_2 : Int) (of_decide_eq_true (by first | (with_reducible assumption) | assumption)) (by have h_ : (x37_2 : Int) < ((x10_3.length : Int) : Int) := of_decide_eq_true (by first | (with_reducible assumption) | assumption); first | exact h_ | (have e_ := (Kd.R_reads' HO_10.out).1; omega) | simpa using h_) (seg := [.int .i64 (wrap64 (((rd_T39 y114 x37_2).f1) + 1))]) (j := 1) hcl36 hcc36 (show 2 ≤ 2 from by decide) (x' := (⟨(rd_T39 y114 x37_2).f0, wrap64 (((rd_T39 y114 x37_2).f1) + 1)⟩ : S39)) (k39_mkM _ _ _ (⟨(rd_T39 y114 x37_2).f0, wrap64 (((rd_T39 y114 x37_2).f1) + 1)⟩ : S39) ) (fun _ hk => hk); have hx36_1 := hcc36 1 _ rfl; (try simp only [show (k39).sz = 2 from rfl, Nat.mul_one, Nat.add_zero] at hx36_1); have hf36_1 := hfr36 1; (try simp only [show (k39).sz = 2 from rfl, Nat.mul_one, Nat.add_zero] at hf36_1); clear hcl36 hcc36 hfr36 hM36) | ((with_reducible refine gate_store (t := 3) (p := 89) rfl ?_); (try (rw [drewN_self w35]; generalize hq_ : World.drewN w35 _ = w35; have n0_ := Aside0.mk (Kd.R_at hq_ HO_10.out); have n1_ := Aside0.mk (below_at hq_ HB.out); clear hq_ HO_10 HB; have HO_10 := n0_; have HB := n1_; clear n0_ n1_; (try (have HX36 := Aside0.mk (show Kd.R k39 39 w35 w.heap.size (fun _ => True) (.slice (some ⟨go32, 0, none⟩) x10_3.length co18) y114 from (by (with_reducible repeat (first | apply Kd.R_alloc | apply Kd.R_drewN | apply Kd.R_drew)); exact HO_10.out)))); (try (obtain ⟨ce36, hcl36, hM36, hcc36, hfr36⟩ := Kd.R_elem HX36.out z39 (x37_2 : Int) (of_decide_eq_true (by first | (with_reducible assumption) | assumption)) (by have h_ : (x37_2 : Int) < ((x10_3.length : Int) : Int) := of_decide_eq_true (by first | (with_reducible assumption) | assumption); first | exact h_ | (have e_ := (Kd.R_reads' HO_10.out).1; omega) | simpa using h_))); (try (obtain rfl := k39_openM hM36)); (try (have HP36 := Kd.R_seg HX36.out (x37_2 : Int) (of_decide_eq_true (by first | (with_reducible assumption) | assumption)) (by have h_ : (x37_2 : Int) < ((x10_3.length : Int) : Int) := of_decide_eq_true (by first | (with_reducible assumption) | assumption); first | exact h_ | (have e_ := (Kd.R_reads' HO_10.out).1; omega) | simpa using h_) (seg := [.int .i64 (wrap64 (((rd_T39 y114 x37_2).f1) + 1))]) (j := 1) hcl36 hcc36 (show 2 ≤ 2 from by decide) (x' := (⟨(rd_T39 y114 x37_2).f0, wrap64 (((rd_T39 y114 x37_2).f1) + 1)⟩ : S39)) (k39_mkM _ _ _ (⟨(rd_T39 y114 x37_2).f0, wrap64 (((rd_T39 y114 x37_2).f1) + 1)⟩ : S39) ) (fun _ hk => hk))); (try (have hx36_1 := hcc36 1 _ rfl)); (try (try simp only [show (k39).sz = 2 from rfl, Nat.mul_one, Nat.add_zero] at hx36_1)); (try (have hf36_1 := hfr36 1)); (try (try simp only [show (k39).sz = 2 from rfl, Nat.mul_one, Nat.add_zero] at hf36_1)); (try (clear hcl36 hcc36 hfr36 hM36)))); refine store_event (t := 3) (p := 89) (v := ?vo_w37) (w1 := (w35.setCell ⟨go32, (x37_2 : Int).toNat * 2 + 1, none⟩ (.int .i64 (wrap64 (((rd_T39 y114 x37_2).f1) + 1))))) ?hg ?ho ?hn ?hr ?_; (case ho => rfl); (case hg => rfl); (case hn => rfl); (case hr => first | (go_simp; done) | (go_simp; rfl)); intro w37 hw; have hg : w35.grownBy w37 (some go32) := (by rw [hw]; exact HP36.2); have hp_ : Kd.R k39 39 w37 w.heap.size (fun _ => True) (.slice (some ⟨go32, 0, none⟩) x10_3.length co18) y116 := (by rw [hw, Ny116.out]; exact HP36.1); clear HP36; have n0_ := Aside0.mk (hp_); have n1_ := Aside0.mk ((by rw [hw]; exact below_set (HB.out) GB32.out : Below w.heap.size w w37)); clear HO_10; clear HB; have HO_10 := n0_; have HB := n1_; clear n0_ n1_; clear hg hw hp_))
                  repeat (go_quiet (first | ((with_reducible refine gate_store (t := 3) (p := 81) rfl ?_); (try (rw [drewN_self wc]; generalize hq_ : World.drewN wc _ = wc; have n0_ := Aside0.mk (Kd.R_at hq_ HO_10.out); have n1_ := Aside0.mk (below_at hq_ HB.out); clear hq_ HO_10 HB; have HO_10 := n0_; have HB := n1_; clear n0_ n1_; (try (have HX34 := Aside0.mk (show Kd.R k39 39 wc w.heap.size (fun _ => True) (.slice (some ⟨go32, 0, none⟩) x10_3.length co18) x10_3 from (by (with_reducible repeat (first | apply Kd.R_alloc | apply Kd.R_drewN | apply Kd.R_drew)); exact HO_10.out)))); (try (obtain ⟨ce34, hcl34, hM34, hcc34, hfr34⟩ := Kd.R_elem HX34.out z39 (x37_2 : Int) (of_decide_eq_true (by first | (with_reducible assumption) | assumption)) (by have h_ : (x37_2 : Int) < ((x10_3.length : Int) : Int) := of_decide_eq_true (by first | (with_reducible assumption) | assumption); first | exact h_ | (have e_ := (Kd.R_reads' HO_10.out).1; omega) | simpa using h_))); (try (obtain rfl := k39_openM hM34)); (try (have HP34 := Kd.R_seg HX34.out (x37_2 : Int) (of_decide_eq_true (by first | (with_reducible assumption) | assumption)) (by have h_ : (x37_2 : Int) < ((x10_3.length : Int) : Int) := of_decide_eq_true (by first | (with_reducible assumption) | assumption); first | exact h_ | (have e_ := (Kd.R_reads' HO_10.out).1; omega) | simpa using h_) (seg := [.int .i64 (wrap64 (((rd_T39 x10_3 x37_2).f0) + (wrap64 ((rd l0 x45_3) * (rd l1 (ji26))))))]) (j := 0) hcl34 hcc34 (show 1 ≤ 2 from by decide) (x' := (⟨wrap64 (((rd_T39 x10_3 x37_2).f0) + (wrap64 ((rd l0 x45_3) * (rd l1 (ji26))))), (rd_T39 x10_3 x37_2).f1⟩ : S39)) (k39_mkM _ _ _ (⟨wrap64 (((rd_T39 x10_3 x37_2).f0) + (wrap64 ((rd l0 x45_3) * (rd l1 (ji26))))), (rd_T39 x10_3 x37_2).f1⟩ : S39) ) (fun _ hk => hk))); (try (have hx34_0 := hcc34 0 _ rfl)); (try (try simp only [show (k39).sz = 2 from rfl, Nat.mul_one, Nat.add_zero] at hx34_0)); (try (have hf34_0 := hfr34 0)); (try (try simp only [show (k39).sz = 2 from rfl, Nat.mul_one, Nat.add_zero] at hf34_0)); (try (clear hcl34 hcc34 hfr34 hM34)))); refine store_event (t := 3) (p := 81) (v := ?vo_w35) (w1 := (wc.setCell ⟨go32, (x37_2 : Int).toNat * 2, none⟩ (.int .i64 (wrap64 (((rd_T39 x10_3 x37_2).f0) + (wrap64 ((rd l0 x45_3) * (rd l1 (ji26))))))))) ?hg ?ho ?hn ?hr ?_; (case ho => rfl); (case hg => rfl); (case hn => rfl); (case hr => first | (go_simp; done) | (go_simp; rfl)); intro w35 hw; have hg : wc.grownBy w35 (some go32) := (by rw [hw]; exact HP34.2); have hp_ : Kd.R k39 39 w35 w.heap.size (fun _ => True) (.slice (some ⟨go32, 0, none⟩) x10_3.length co18) y114 := (by rw [hw, Ny114.out]; exact HP34.1); clear HP34; have n0_ := Aside0.mk (hp_); have n1_ := Aside0.mk ((by rw [hw]; exact below_set (HB.out) GB32.out : Below w.heap.size w w35)); clear HO_10; clear HB; have HO_10 := n0_; have HB := n1_; clear n0_ n1_; clear hg hw hp_; have p115 : 0 ≤ (x37_2 : Int) := of_decide_eq_true (by first | (with_reducible assumption) | assumption); have q115 : x37_2 < (y114.length : Int) := (by have h_ : (x37_2 : Int) < ((x10_3.length : Int) : Int) := of_decide_eq_true (by first | (with_reducible assumption) | assumption); first | (have e_ := (Kd.R_reads' HO_10.out).1; omega) | simpa only [Ny114.out, List.length_set] using h_); have ql115 : ((x37_2 : Int) < ((x10_3.length : Int) : Int)) = True := eq_true (of_decide_eq_true (by first | (with_reducible assumption) | assumption)); obtain ⟨ad115, e115, hx115_0, hx115_1⟩ := at_T39 (Kd.R_reads' HO_10.out).2.2 x37_2 p115 q115; obtain rfl : (⟨go32, 0, none⟩ : Addr) = ad115 := (by injection e115); (first | simp only [add_plain] at hx115_0 | simp only [add_at] at hx115_0 | simp only [Addr.add, Nat.zero_add] at hx115_0 | skip); (first | simp only [add_plain] at hx115_1 | simp only [add_at] at hx115_1 | simp only [Addr.add, Nat.zero_add] at hx115_1 | skip); replace p115 := eq_true p115; replace q115 := eq_true q115; have p33 : 0 ≤ (x37_2 : Int) := of_decide_eq_true (by first | (with_reducible assumption) | assumption); have q33 : (x37_2 : Int) < ((x10_3.length : Int) : Int) := of_decide_eq_true (by first | (with_reducible assumption) | assumption); obtain ⟨ce33, hcl33, hM33, hcc33, hfr33⟩ := Kd.R_elem HO_10.out z39 (x37_2 : Int) p33 q33; obtain rfl := k39_openM hM33; have hx33_0 : w35.cell? ⟨go32, (x37_2 : Int).toNat * 2, none⟩ = some (.int .i64 ((rd_T39 y114 x37_2).f0)) := hcc33 0 _ rfl; have hx33_1 : w35.cell? ⟨go32, (x37_2 : Int).toNat * 2 + 1, none⟩ = some (.int .i64 ((rd_T39 y114 x37_2).f1)) := hcc33 1 _ rfl; have hf33_0 : w35.frozen? ⟨go32, (x37_2 : Int).toNat * 2, none⟩ = false := hfr33 0; have hf33_1 : w35.frozen? ⟨go32, (x37_2 : Int).toNat * 2 + 1, none⟩ = false := hfr33 1; clear hcl33 hcc33 hfr33 hM33; replace p33 := eq_true p33; replace q33 := eq_true q33; have HX36 := Aside0.mk (show Kd.R k39 39 w35 w.heap.size (fun _ => True) (.slice (some ⟨go32, 0, none⟩) x10_3.length co18) y114 from (by (with_reducible repeat (first | apply Kd.R_alloc | apply Kd.R_drewN | apply Kd.R_drew)); exact HO_10.out)); obtain ⟨ce36, hcl36, hM36, hcc36, hfr36⟩ := Kd.R_elem HX36.out z39 (x37_2 : Int) (of_decide_eq_true (by first | (with_reducible assumption) | assumption)) (by have h_ : (x37_2 : Int) < ((x10_3.length : Int) : Int) := of_decide_eq_true (by first | (with_reducible assumption) | assumption); first | exact h_ | (have e_ := (Kd.R_reads' HO_10.out).1; omega) | simpa using h_); obtain rfl := k39_openM hM36; have HP36 := Kd.R_seg HX36.out (x37_2 : Int) (of_decide_eq_true (by first | (with_reducible assumption) | assumption)) (by have h_ : (x37_2 : Int) < ((x10_3.length : Int) : Int) := of_decide_eq_true (by first | (with_reducible assumption) | assumption); first | exact h_ | (have e_ := (Kd.R_reads' HO_10.out).1; omega) | simpa using h_) (seg := [.int .i64 (wrap64 (((rd_T39 y114 x37_2).f1) + 1))]) (j := 1) hcl36 hcc36 (show 2 ≤ 2 from by decide) (x' := (⟨(rd_T39 y114 x37_2).f0, wrap64 (((rd_T39 y114 x37_2).f1) + 1)⟩ : S39)) (k39_mkM _ _ _ (⟨(rd_T39 y114 x37_2).f0, wrap64 (((rd_T39 y114 x37_2).f1) + 1)⟩ : S39) ) (fun _ hk => hk); have hx36_1 := hcc36 1 _ rfl; (try simp only [show (k39).sz = 2 from rfl, Nat.mul_one, Nat.add_zero] at hx36_1); have hf36_1 := hfr36 1; (try simp only [show (k39).sz = 2 from rfl, Nat.mul_one, Nat.add_zero] at hf36_1); clear hcl36 hcc36 hfr36 hM36) | ((with_reducible refine gate_store (t := 3) (p := 89) rfl ?_); (try (rw [drewN_self w35]; generalize hq_ : World.drewN w35 _ = w35; have n0_ := Aside0.mk (Kd.R_at hq_ HO_10.out); have n1_ := Aside0.mk (below_at hq_ HB.out); clear hq_ HO_10 HB; have HO_10 := n0_; have HB := n1_; clear n0_ n1_; (try (have HX36 := Aside0.mk (show Kd.R k39 39 w35 w.heap.size (fun _ => True) (.slice (some ⟨go32, 0, none⟩) x10_3.length co18) y114 from (by (with_reducible repeat (first | apply Kd.R_alloc | apply Kd.R_drewN | apply Kd.R_drew)); exact HO_10.out)))); (try (obtain ⟨ce36, hcl36, hM36, hcc36, hfr36⟩ := Kd.R_elem HX36.out z39 (x37_2 : Int) (of_decide_eq_true (by first | (with_reducible assumption) | assumption)) (by have h_ : (x37_2 : Int) < ((x10_3.length : Int) : Int) := of_decide_eq_true (by first | (with_reducible assumption) | assumption); first | exact h_ | (have e_ := (Kd.R_reads' HO_10.out).1; omega) | simpa using h_))); (try (obtain rfl := k39_openM hM36)); (try (have HP36 := Kd.R_seg HX36.out (x37_2 : Int) (of_decide_eq_true (by first | (with_reducible assumption) | assumption)) (by have h_ : (x37_2 : Int) < ((x10_3.length : Int) : Int) := of_decide_eq_true (by first | (with_reducible assumption) | assumption); first | exact h_ | (have e_ := (Kd.R_reads' HO_10.out).1; omega) | simpa using h_) (seg := [.int .i64 (wrap64 (((rd_T39 y114 x37_2).f1) + 1))]) (j := 1) hcl36 hcc36 (show 2 ≤ 2 from by decide) (x' := (⟨(rd_T39 y114 x37_2).f0, wrap64 (((rd_T39 y114 x37_2).f1) + 1)⟩ : S39)) (k39_mkM _ _ _ (⟨(rd_T39 y114 x37_2).f0, wrap64 (((rd_T39 y114 x37_2).f1) + 1)⟩ : S39) ) (fun _ hk => hk))); (try (have hx36_1 := hcc36 1 _ rfl)); (try (try simp only [show (k39).sz = 2 from rfl, Nat.mul_one, Nat.add_zero] at hx36_1)); (try (have hf36_1 := hfr36 1)); (try (try simp only [show (k39).sz = 2 from rfl, Nat.mul_one, Nat.add_zero] at hf36_1)); (try (clear hcl36 hcc36 hfr36 hM36)))); refine store_event (t := 3) (p := 89) (v := ?vo_w37) (w1 := (w35.setCell ⟨go32, (x37_2 : Int).toNat * 2 + 1, none⟩ (.int .i64 (wrap64 (((rd_T39 y114 x37_2).f1) + 1))))) ?hg ?ho ?hn ?hr ?_; (case ho => rfl); (case hg => rfl); (case hn => rfl); (case hr => first | (go_simp; done) | (go_simp; rfl)); intro w37 hw; have hg : w35.grownBy w37 (some go32) := (by rw [hw]; exact HP36.2); have hp_ : Kd.R k39 39 w37 w.heap.size (fun _ => True) (.slice (some ⟨go32, 0, none⟩) x10_3.length co18) y116 := (by rw [hw, Ny116.out]; exact HP36.1); clear HP36; have n0_ := Aside0.mk (hp_); have n1_ := Aside0.mk ((by rw [hw]; exact below_set (HB.out) GB32.out : Below w.heap.size w w37)); clear HO_10; clear HB; have HO_10 := n0_; have HB := n1_; clear n0_ n1_; clear hg hw hp_)); try go_wp2_with (first | ((with_reducible refine gate_store (t := 3) (p := 81) rfl ?_); (try (rw [drewN_self wc]; generalize hq_ : World.drewN wc _ = wc; have n0_ := Aside0.mk (Kd.R_at hq_ HO_10.out); have n1_ := Aside0.mk (below_at hq_ HB.out); clear hq_ HO_10 HB; have HO_10 := n0_; have HB := n1_; clear n0_ n1_; (try (have HX34 := Aside0.mk (show Kd.R k39 39 wc w.heap.size (fun _ => True) (.slice (some ⟨go32, 0, none⟩) x10_3.length co18) x10_3 from (by (with_reducible repeat (first | apply Kd.R_alloc | apply Kd.R_drewN | apply Kd.R_drew)); exact HO_10.out)))); (try (obtain ⟨ce34, hcl34, hM34, hcc34, hfr34⟩ := Kd.R_elem HX34.out z39 (x37_2 : Int) (of_decide_eq_true (by first | (with_reducible assumption) | assumption)) (by have h_ : (x37_2 : Int) < ((x10_3.length : Int) : Int) := of_decide_eq_true (by first | (with_reducible assumption) | assumption); first | exact h_ | (have e_ := (Kd.R_reads' HO_10.out).1; omega) | simpa using h_))); (try (obtain rfl := k39_openM hM34)); (try (have HP34 := Kd.R_seg HX34.out (x37_2 : Int) (of_decide_eq_true (by first | (with_reducible assumption) | assumption)) (by have h_ : (x37_2 : Int) < ((x10_3.length : Int) : Int) := of_decide_eq_true (by first | (with_reducible assumption) | assumption); first | exact h_ | (have e_ := (Kd.R_reads' HO_10.out).1; omega) | simpa using h_) (seg := [.int .i64 (wrap64 (((rd_T39 x10_3 x37_2).f0) + (wrap64 ((rd l0 x45_3) * (rd l1 (ji26))))))]) (j := 0) hcl34 hcc34 (show 1 ≤ 2 from by decide) (x' := (⟨wrap64 (((rd_T39 x10_3 x37_2).f0) + (wrap64 ((rd l0 x45_3) * (rd l1 (ji26))))), (rd_T39 x10_3 x37_2).f1⟩ : S39)) (k39_mkM _ _ _ (⟨wrap64 (((rd_T39 x10_3 x37_2).f0) + (wrap64 ((rd l0 x45_3) * (rd l1 (ji26))))), (rd_T39 x10_3 x37_2).f1⟩ : S39) ) (fun _ hk => hk))); (try (have hx34_0 := hcc34 0 _ rfl)); (try (try simp only [show (k39).sz = 2 from rfl, Nat.mul_one, Nat.add_zero] at hx34_0)); (try (have hf34_0 := hfr34 0)); (try (try simp only [show (k39).sz = 2 from rfl, Nat.mul_one, Nat.add_zero] at hf34_0)); (try (clear hcl34 hcc34 hfr34 hM34)))); refine store_event (t := 3) (p := 81) (v := ?vo_w35) (w1 := (wc.setCell ⟨go32, (x37_2 : Int).toNat * 2, none⟩ (.int .i64 (wrap64 (((rd_T39 x10_3 x37_2).f0) + (wrap64 ((rd l0 x45_3) * (rd l1 (ji26))))))))) ?hg ?ho ?hn ?hr ?_; (case ho => rfl); (case hg => rfl); (case hn => rfl); (case hr => first | (go_simp; done) | (go_simp; rfl)); intro w35 hw; have hg : wc.grownBy w35 (some go32) := (by rw [hw]; exact HP34.2); have hp_ : Kd.R k39 39 w35 w.heap.size (fun _ => True) (.slice (some ⟨go32, 0, none⟩) x10_3.length co18) y114 := (by rw [hw, Ny114.out]; exact HP34.1); clear HP34; have n0_ := Aside0.mk (hp_); have n1_ := Aside0.mk ((by rw [hw]; exact below_set (HB.out) GB32.out : Below w.heap.size w w35)); clear HO_10; clear HB; have HO_10 := n0_; have HB := n1_; clear n0_ n1_; clear hg hw hp_; have p115 : 0 ≤ (x37_2 : Int) := of_decide_eq_true (by first | (with_reducible assumption) | assumption); have q115 : x37_2 < (y114.length : Int) := (by have h_ : (x37_2 : Int) < ((x10_3.length : Int) : Int) := of_decide_eq_true (by first | (with_reducible assumption) | assumption); first | (have e_ := (Kd.R_reads' HO_10.out).1; omega) | simpa only [Ny114.out, List.length_set] using h_); have ql115 : ((x37_2 : Int) < ((x10_3.length : Int) : Int)) = True := eq_true (of_decide_eq_true (by first | (with_reducible assumption) | assumption)); obtain ⟨ad115, e115, hx115_0, hx115_1⟩ := at_T39 (Kd.R_reads' HO_10.out).2.2 x37_2 p115 q115; obtain rfl : (⟨go32, 0, none⟩ : Addr) = ad115 := (by injection e115); (first | simp only [add_plain] at hx115_0 | simp only [add_at] at hx115_0 | simp only [Addr.add, Nat.zero_add] at hx115_0 | skip); (first | simp only [add_plain] at hx115_1 | simp only [add_at] at hx115_1 | simp only [Addr.add, Nat.zero_add] at hx115_1 | skip); replace p115 := eq_true p115; replace q115 := eq_true q115; have p33 : 0 ≤ (x37_2 : Int) := of_decide_eq_true (by first | (with_reducible assumption) | assumption); have q33 : (x37_2 : Int) < ((x10_3.length : Int) : Int) := of_decide_eq_true (by first | (with_reducible assumption) | assumption); obtain ⟨ce33, hcl33, hM33, hcc33, hfr33⟩ := Kd.R_elem HO_10.out z39 (x37_2 : Int) p33 q33; obtain rfl := k39_openM hM33; have hx33_0 : w35.cell? ⟨go32, (x37_2 : Int).toNat * 2, none⟩ = some (.int .i64 ((rd_T39 y114 x37_2).f0)) := hcc33 0 _ rfl; have hx33_1 : w35.cell? ⟨go32, (x37_2 : Int).toNat * 2 + 1, none⟩ = some (.int .i64 ((rd_T39 y114 x37_2).f1)) := hcc33 1 _ rfl; have hf33_0 : w35.frozen? ⟨go32, (x37_2 : Int).toNat * 2, none⟩ = false := hfr33 0; have hf33_1 : w35.frozen? ⟨go32, (x37_2 : Int).toNat * 2 + 1, none⟩ = false := hfr33 1; clear hcl33 hcc33 hfr33 hM33; replace p33 := eq_true p33; replace q33 := eq_true q33; have HX36 := Aside0.mk (show Kd.R k39 39 w35 w.heap.size (fun _ => True) (.slice (some ⟨go32, 0, none⟩) x10_3.length co18) y114 from (by (with_reducible repeat (first | apply Kd.R_alloc | apply Kd.R_drewN | apply Kd.R_drew)); exact HO_10.out)); obtain ⟨ce36, hcl36, hM36, hcc36, hfr36⟩ := Kd.R_elem HX36.out z39 (x37_2 : Int) (of_decide_eq_true (by first | (with_reducible assumption) | assumption)) (by have h_ : (x37_2 : Int) < ((x10_3.length : Int) : Int) := of_decide_eq_true (by first | (with_reducible assumption) | assumption); first | exact h_ | (have e_ := (Kd.R_reads' HO_10.out).1; omega) | simpa using h_); obtain rfl := k39_openM hM36; have HP36 := Kd.R_seg HX36.out (x37_2 : Int) (of_decide_eq_true (by first | (with_reducible assumption) | assumption)) (by have h_ : (x37_2 : Int) < ((x10_3.length : Int) : Int) := of_decide_eq_true (by first | (with_reducible assumption) | assumption); first | exact h_ | (have e_ := (Kd.R_reads' HO_10.out).1; omega) | simpa using h_) (seg := [.int .i64 (wrap64 (((rd_T39 y114 x37_2).f1) + 1))]) (j := 1) hcl36 hcc36 (show 2 ≤ 2 from by decide) (x' := (⟨(rd_T39 y114 x37_2).f0, wrap64 (((rd_T39 y114 x37_2).f1) + 1)⟩ : S39)) (k39_mkM _ _ _ (⟨(rd_T39 y114 x37_2).f0, wrap64 (((rd_T39 y114 x37_2).f1) + 1)⟩ : S39) ) (fun _ hk => hk); have hx36_1 := hcc36 1 _ rfl; (try simp only [show (k39).sz = 2 from rfl, Nat.mul_one, Nat.add_zero] at hx36_1); have hf36_1 := hfr36 1; (try simp only [show (k39).sz = 2 from rfl, Nat.mul_one, Nat.add_zero] at hf36_1); clear hcl36 hcc36 hfr36 hM36) | ((with_reducible refine gate_store (t := 3) (p := 89) rfl ?_); (try (rw [drewN_self w35]; generalize hq_ : World.drewN w35 _ = w35; have n0_ := Aside0.mk (Kd.R_at hq_ HO_10.out); have n1_ := Aside0.mk (below_at hq_ HB.out); clear hq_ HO_10 HB; have HO_10 := n0_; have HB := n1_; clear n0_ n1_; (try (have HX36 := Aside0.mk (show Kd.R k39 39 w35 w.heap.size (fun _ => True) (.slice (some ⟨go32, 0, none⟩) x10_3.length co18) y114 from (by (with_reducible repeat (first | apply Kd.R_alloc | apply Kd.R_drewN | apply Kd.R_drew)); exact HO_10.out)))); (try (obtain ⟨ce36, hcl36, hM36, hcc36, hfr36⟩ := Kd.R_elem HX36.out z39 (x37_2 : Int) (of_decide_eq_true (by first | (with_reducible assumption) | assumption)) (by have h_ : (x37_2 : Int) < ((x10_3.length : Int) : Int) := of_decide_eq_true (by first | (with_reducible assumption) | assumption); first | exact h_ | (have e_ := (Kd.R_reads' HO_10.out).1; omega) | simpa using h_))); (try (obtain rfl := k39_openM hM36)); (try (have HP36 := Kd.R_seg HX36.out (x37_2 : Int) (of_decide_eq_true (by first | (with_reducible assumption) | assumption)) (by have h_ : (x37_2 : Int) < ((x10_3.length : Int) : Int) := of_decide_eq_true (by first | (with_reducible assumption) | assumption); first | exact h_ | (have e_ := (Kd.R_reads' HO_10.out).1; omega) | simpa using h_) (seg := [.int .i64 (wrap64 (((rd_T39 y114 x37_2).f1) + 1))]) (j := 1) hcl36 hcc36 (show 2 ≤ 2 from by decide) (x' := (⟨(rd_T39 y114 x37_2).f0, wrap64 (((rd_T39 y114 x37_2).f1) + 1)⟩ : S39)) (k39_mkM _ _ _ (⟨(rd_T39 y114 x37_2).f0, wrap64 (((rd_T39 y114 x37_2).f1) + 1)⟩ : S39) ) (fun _ hk => hk))); (try (have hx36_1 := hcc36 1 _ rfl)); (try (try simp only [show (k39).sz = 2 from rfl, Nat.mul_one, Nat.add_zero] at hx36_1)); (try (have hf36_1 := hfr36 1)); (try (try simp only [show (k39).sz = 2 from rfl, Nat.mul_one, Nat.add_zero] at hf36_1)); (try (clear hcl36 hcc36 hfr36 hM36)))); refine store_event (t := 3) (p := 89) (v := ?vo_w37) (w1 := (w35.setCell ⟨go32, (x37_2 : Int).toNat * 2 + 1, none⟩ (.int .i64 (wrap64 (((rd_T39 y114 x37_2).f1) + 1))))) ?hg ?ho ?hn ?hr ?_; (case ho => rfl); (case hg => rfl); (case hn => rfl); (case hr => first | (go_simp; done) | (go_simp; rfl)); intro w37 hw; have hg : w35.grownBy w37 (some go32) := (by rw [hw]; exact HP36.2); have hp_ : Kd.R k39 39 w37 w.heap.size (fun _ => True) (.slice (some ⟨go32, 0, none⟩) x10_3.length co18) y116 := (by rw [hw, Ny116.out]; exact HP36.1); clear HP36; have n0_ := Aside0.mk (hp_); have n1_ := Aside0.mk ((by rw [hw]; exact below_set (HB.out) GB32.out : Below w.heap.size w w37)); clear HO_10; clear HB; have HO_10 := n0_; have HB := n1_; clear n0_ n1_; clear hg hw hp_)))
                  (try simp only [← hl10_3])
                  go_roundg kj20
                  case measure => have := HJ7.out; have := HK2.out; have := HK3.out; have := HJ20.out; omega
                  case rel => exact ⟨(y116), (wrap64 (x45_3 + 1)), (by first | rfl | (simp; done) | (simp [*]; done)), H', ⟨by have := HJ7.out; have := HK2.out; have := HK3.out; have := HJ20.out; omega⟩, ⟨by (try simp only [hl10_2]); (try simp only [hl10_3]); (with_reducible repeat (first | apply Kd.R_alloc | apply Kd.R_drewN | apply Kd.R_drew)); exact HO_10.out⟩, ⟨by repeat (first | (with_reducible first | exact HB.out | apply below_alloc | apply pw_below_drewN | apply below_drew1) | exact HB.out)⟩⟩

end Go.Proofs.Ytajdbccapandgaa.PAll
