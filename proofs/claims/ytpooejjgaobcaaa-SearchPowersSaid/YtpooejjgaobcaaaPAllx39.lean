-- Written by a program of this session, after the kit's print
import Derived.Test.YtpooejjgaobcaaaPAllx0
import Derived.Test.YtpooejjgaobcaaaPAllx1
import Derived.Test.YtpooejjgaobcaaaPAllx13
import Derived.Test.YtpooejjgaobcaaaPAllx32
import Derived.Test.YtpooejjgaobcaaaPAllx34
import Derived.Test.YtpooejjgaobcaaaPAllx38
namespace Go.Proofs.Ytpooejjgaobcaaa.PAll
open Go.RowKit Go.Proofs.YtpooejjgaobcaaaW.PrintWords Go.Proofs.YtpooejjgaobcaaaW.PrintLast Go.Proofs.YtpooejjgaobcaaaW.PrintMore
attribute [local go_sem] max2_int min2_int max_two min_two max_three min_three max_four min_four   -- for this text's walks alone
set_option linter.unusedVariables false
set_option linter.unusedSimpArgs false

attribute [local go_sem high] eqA23
/-! ### fringelaw20_SearchPowers: function 9 -/
mutual
def fringelaw20_SearchPowers.j0 : Nat → List Int → List Int → Int → Int → Bool → Bool → Option (Bool)
  | 0, _, _, _, _, _, _ => none
  | k + 1, x0, x1, x2, x3, x9, x39 => if x39 = true then (some x9) else (fringelaw20_SearchPowers.l0 k x0 x1 x2 x3 x9 0 0)
def fringelaw20_SearchPowers.l0 : Nat → List Int → List Int → Int → Int → Bool → Int → Int → Option (Bool)
  | 0, _, _, _, _, _, _, _ => none
  | k + 1, x0, x1, x2, x3, x9, x10, x11 => if x11 < 4 then ((search_At.f k x0 x1 x2 x11 x3).bind fun bt587 => (if bt587.2.2.2.2.2 = 0 then (fringelaw20_SearchPowers.l0 k x0 x1 x2 x3 x9 (wrap64 (x10 + bt587.2.2.2.2.1)) (wrap64 (x11 + 1))) else (some false))) else (fringelaw20_SearchPowers.l1 k x0 x1 x2 x3 x9 x10 0 0)
def fringelaw20_SearchPowers.l1 : Nat → List Int → List Int → Int → Int → Bool → Int → Int → Int → Option (Bool)
  | 0, _, _, _, _, _, _, _, _ => none
  | k + 1, x0, x1, x2, x3, x9, x10, x14, x15 => if x15 < 4 then (fringelaw20_SearchPowers.l2 k x0 x1 x2 x3 x9 x10 x14 x15 0 0) else ((lag_Of.f k x0 x1 32).bind fun bt594 => ((search_At.f k x0 x1 x2 0 x3).bind fun bt598 => (if x9 = true then (if x10 = (wrap64 (4 * x14)) then (if bt594.2 = 0 then (if bt598.2.2.2.2.2 = 0 then (if (bt594.1.length : Int) = 65 then (if 0 ≤ (wrap64 (x2 + 32)) then (if (wrap64 (x2 + 32)) < (bt594.1.length : Int) then (some (bt598.2.2.1 == ((rd_T64 bt594.1 (wrap64 (x2 + 32))).f0) && (bt598.2.2.2.1 == 0))) else (none)) else (none)) else (some false)) else (some false)) else (some false)) else (some false)) else (some false))))
def fringelaw20_SearchPowers.l2 : Nat → List Int → List Int → Int → Int → Bool → Int → Int → Int → Int → Int → Option (Bool)
  | 0, _, _, _, _, _, _, _, _, _, _ => none
  | k + 1, x0, x1, x2, x3, x9, x10, x14, x15, x16, x17 => if x17 < (x0.length : Int) then (if x3 = 0 then (none) else (if (Int.tmod (wrap64 (Int.tdiv x17 x3)) 4) = x15 then (if (wrap64 (x17 + x2)) ≥ 0 then (if (wrap64 (x17 + x2)) < (x1.length : Int) then (if 0 ≤ x17 then (if 0 ≤ (wrap64 (x17 + x2)) then (fringelaw20_SearchPowers.l2 k x0 x1 x2 x3 x9 x10 x14 x15 (wrap64 (x16 + (wrap64 ((rd x0 x17) * (rd x1 (wrap64 (x17 + x2))))))) (wrap64 (x17 + 1))) else (none)) else (none)) else (fringelaw20_SearchPowers.l2 k x0 x1 x2 x3 x9 x10 x14 x15 x16 (wrap64 (x17 + 1)))) else (fringelaw20_SearchPowers.l2 k x0 x1 x2 x3 x9 x10 x14 x15 x16 (wrap64 (x17 + 1)))) else (fringelaw20_SearchPowers.l2 k x0 x1 x2 x3 x9 x10 x14 x15 x16 (wrap64 (x17 + 1))))) else (fringelaw20_SearchPowers.l1 k x0 x1 x2 x3 x9 x10 (wrap64 (x14 + (wrap64 (x16 * x16)))) (wrap64 (x15 + 1)))
end
def fringelaw20_SearchPowers.f (k : Nat) (l0 : List Int) (l1 : List Int) (a2 : Int) (a3 : Int) : Option (Bool) := (fringelaw20_alive.f).bind fun t585 => ((fringelaw20_fit.f k l0 l1 a3).bind fun t586 => (if t586 = true then (if a2 < (-32) then (fringelaw20_SearchPowers.j0 k l0 l1 a2 a3 t585 true) else (if a2 > 32 then (fringelaw20_SearchPowers.j0 k l0 l1 a2 a3 t585 true) else (fringelaw20_SearchPowers.j0 k l0 l1 a2 a3 t585 (!t585)))) else (fringelaw20_SearchPowers.j0 k l0 l1 a2 a3 t585 true)))
theorem fringelaw20_SearchPowers.mono_l : ∀ k, (∀ y0 y1 y2 y3 y4 y5, LeO (fringelaw20_SearchPowers.j0 k y0 y1 y2 y3 y4 y5) (fringelaw20_SearchPowers.j0 (k + 1) y0 y1 y2 y3 y4 y5)) ∧ (∀ y0 y1 y2 y3 y4 y5 y6, LeO (fringelaw20_SearchPowers.l0 k y0 y1 y2 y3 y4 y5 y6) (fringelaw20_SearchPowers.l0 (k + 1) y0 y1 y2 y3 y4 y5 y6)) ∧ (∀ y0 y1 y2 y3 y4 y5 y6 y7, LeO (fringelaw20_SearchPowers.l1 k y0 y1 y2 y3 y4 y5 y6 y7) (fringelaw20_SearchPowers.l1 (k + 1) y0 y1 y2 y3 y4 y5 y6 y7)) ∧ (∀ y0 y1 y2 y3 y4 y5 y6 y7 y8 y9, LeO (fringelaw20_SearchPowers.l2 k y0 y1 y2 y3 y4 y5 y6 y7 y8 y9) (fringelaw20_SearchPowers.l2 (k + 1) y0 y1 y2 y3 y4 y5 y6 y7 y8 y9))
  | 0 => ⟨fun _ _ _ _ _ _ r h => by simp [fringelaw20_SearchPowers.j0] at h, fun _ _ _ _ _ _ _ r h => by simp [fringelaw20_SearchPowers.l0] at h, fun _ _ _ _ _ _ _ _ r h => by simp [fringelaw20_SearchPowers.l1] at h, fun _ _ _ _ _ _ _ _ _ _ r h => by simp [fringelaw20_SearchPowers.l2] at h⟩
  | k + 1 => by
    obtain ⟨ih0, ih1, ih2, ih3⟩ := fringelaw20_SearchPowers.mono_l k
    refine ⟨?_, ?_, ?_, ?_⟩
    · intro y0 y1 y2 y3 y4 y5
      unfold fringelaw20_SearchPowers.j0
      repeat' first
      | (with_reducible exact ih0 _ _ _ _ _ _)
      | (with_reducible exact ih1 _ _ _ _ _ _ _)
      | (with_reducible exact ih2 _ _ _ _ _ _ _ _)
      | (with_reducible exact ih3 _ _ _ _ _ _ _ _ _ _)
      | (with_reducible exact fringelaw20_fit.mono _ _ _ _)
      | (with_reducible exact lag_Of.mono _ _ _ _)
      | (with_reducible exact search_At.mono _ _ _ _ _ _)
      | (with_reducible exact LeO.refl _)
      | (with_reducible exact LeO.none _)
      | (with_reducible refine LeO.ite ?_ ?_)
      | (with_reducible refine LeO.bind ?_ (fun _ => ?_))
      | exact ih0 _ _ _ _ _ _
      | exact ih1 _ _ _ _ _ _ _
      | exact ih2 _ _ _ _ _ _ _ _
      | exact ih3 _ _ _ _ _ _ _ _ _ _
      | exact fringelaw20_fit.mono _ _ _ _
      | exact lag_Of.mono _ _ _ _
      | exact search_At.mono _ _ _ _ _ _
      | exact LeO.none _
      | refine LeO.ite ?_ ?_
      | refine LeO.bind ?_ (fun _ => ?_)
    · intro y0 y1 y2 y3 y4 y5 y6
      unfold fringelaw20_SearchPowers.l0
      repeat' first
      | (with_reducible exact ih0 _ _ _ _ _ _)
      | (with_reducible exact ih1 _ _ _ _ _ _ _)
      | (with_reducible exact ih2 _ _ _ _ _ _ _ _)
      | (with_reducible exact ih3 _ _ _ _ _ _ _ _ _ _)
      | (with_reducible exact fringelaw20_fit.mono _ _ _ _)
      | (with_reducible exact lag_Of.mono _ _ _ _)
      | (with_reducible exact search_At.mono _ _ _ _ _ _)
      | (with_reducible exact LeO.refl _)
      | (with_reducible exact LeO.none _)
      | (with_reducible refine LeO.ite ?_ ?_)
      | (with_reducible refine LeO.bind ?_ (fun _ => ?_))
      | exact ih0 _ _ _ _ _ _
      | exact ih1 _ _ _ _ _ _ _
      | exact ih2 _ _ _ _ _ _ _ _
      | exact ih3 _ _ _ _ _ _ _ _ _ _
      | exact fringelaw20_fit.mono _ _ _ _
      | exact lag_Of.mono _ _ _ _
      | exact search_At.mono _ _ _ _ _ _
      | exact LeO.none _
      | refine LeO.ite ?_ ?_
      | refine LeO.bind ?_ (fun _ => ?_)
    · intro y0 y1 y2 y3 y4 y5 y6 y7
      unfold fringelaw20_SearchPowers.l1
      repeat' first
      | (with_reducible exact ih0 _ _ _ _ _ _)
      | (with_reducible exact ih1 _ _ _ _ _ _ _)
      | (with_reducible exact ih2 _ _ _ _ _ _ _ _)
      | (with_reducible exact ih3 _ _ _ _ _ _ _ _ _ _)
      | (with_reducible exact fringelaw20_fit.mono _ _ _ _)
      | (with_reducible exact lag_Of.mono _ _ _ _)
      | (with_reducible exact search_At.mono _ _ _ _ _ _)
      | (with_reducible exact LeO.refl _)
      | (with_reducible exact LeO.none _)
      | (with_reducible refine LeO.ite ?_ ?_)
      | (with_reducible refine LeO.bind ?_ (fun _ => ?_))
      | exact ih0 _ _ _ _ _ _
      | exact ih1 _ _ _ _ _ _ _
      | exact ih2 _ _ _ _ _ _ _ _
      | exact ih3 _ _ _ _ _ _ _ _ _ _
      | exact fringelaw20_fit.mono _ _ _ _
      | exact lag_Of.mono _ _ _ _
      | exact search_At.mono _ _ _ _ _ _
      | exact LeO.none _
      | refine LeO.ite ?_ ?_
      | refine LeO.bind ?_ (fun _ => ?_)
    · intro y0 y1 y2 y3 y4 y5 y6 y7 y8 y9
      unfold fringelaw20_SearchPowers.l2
      repeat' first
      | (with_reducible exact ih0 _ _ _ _ _ _)
      | (with_reducible exact ih1 _ _ _ _ _ _ _)
      | (with_reducible exact ih2 _ _ _ _ _ _ _ _)
      | (with_reducible exact ih3 _ _ _ _ _ _ _ _ _ _)
      | (with_reducible exact fringelaw20_fit.mono _ _ _ _)
      | (with_reducible exact lag_Of.mono _ _ _ _)
      | (with_reducible exact search_At.mono _ _ _ _ _ _)
      | (with_reducible exact LeO.refl _)
      | (with_reducible exact LeO.none _)
      | (with_reducible refine LeO.ite ?_ ?_)
      | (with_reducible refine LeO.bind ?_ (fun _ => ?_))
      | exact ih0 _ _ _ _ _ _
      | exact ih1 _ _ _ _ _ _ _
      | exact ih2 _ _ _ _ _ _ _ _
      | exact ih3 _ _ _ _ _ _ _ _ _ _
      | exact fringelaw20_fit.mono _ _ _ _
      | exact lag_Of.mono _ _ _ _
      | exact search_At.mono _ _ _ _ _ _
      | exact LeO.none _
      | refine LeO.ite ?_ ?_
      | refine LeO.bind ?_ (fun _ => ?_)
theorem fringelaw20_SearchPowers.mono : ∀ a0 a1 a2 a3 k, LeO (fringelaw20_SearchPowers.f k a0 a1 a2 a3) (fringelaw20_SearchPowers.f (k + 1) a0 a1 a2 a3) := by
  intro a0 a1 a2 a3 k
  obtain ⟨ih0, ih1, ih2, ih3⟩ := fringelaw20_SearchPowers.mono_l k
  unfold fringelaw20_SearchPowers.f
  repeat' first
      | (with_reducible exact ih0 _ _ _ _ _ _)
      | (with_reducible exact ih1 _ _ _ _ _ _ _)
      | (with_reducible exact ih2 _ _ _ _ _ _ _ _)
      | (with_reducible exact ih3 _ _ _ _ _ _ _ _ _ _)
      | (with_reducible exact fringelaw20_fit.mono _ _ _ _)
      | (with_reducible exact lag_Of.mono _ _ _ _)
      | (with_reducible exact search_At.mono _ _ _ _ _ _)
      | (with_reducible exact LeO.refl _)
      | (with_reducible exact LeO.none _)
      | (with_reducible refine LeO.ite ?_ ?_)
      | (with_reducible refine LeO.bind ?_ (fun _ => ?_))
      | exact ih0 _ _ _ _ _ _
      | exact ih1 _ _ _ _ _ _ _
      | exact ih2 _ _ _ _ _ _ _ _
      | exact ih3 _ _ _ _ _ _ _ _ _ _
      | exact fringelaw20_fit.mono _ _ _ _
      | exact lag_Of.mono _ _ _ _
      | exact search_At.mono _ _ _ _ _ _
      | exact LeO.none _
      | refine LeO.ite ?_ ?_
      | refine LeO.bind ?_ (fun _ => ?_)
set_option maxHeartbeats 8000000 in
set_option maxRecDepth 100000 in
theorem fringelaw20_SearchPowers.calls (k : Nat) (A0 : Option Addr) (c0 : Nat) (l0 : List Int) (A1 : Option Addr) (c1 : Nat) (l1 : List Int) (a2 : Int) (a3 : Int) (r : Bool) (w : World) (hr0 : Kd.C (Kd.int .i64) w A0 l0.length l0) (hc0 : l0.length ≤ c0) (hr1 : Kd.C (Kd.int .i64) w A1 l1.length l1) (hc1 : l1.length ≤ c1) (hrt : r = true) (h : fringelaw20_SearchPowers.f k l0 l1 a2 a3 = some r) :
    Calls Try.prog 9 #[.slice A0 l0.length c0, .slice A1 l1.length c1, .int .i64 a2, .int .i64 a3] w fun e w' => e = .returned (.bool r) ∧ Below w.heap.size w w' := by
  have hu32 := Try.underlying32
  have hu23 := Try.underlying23
  have HR0 := Aside0.mk hr0
  have HC0 := Aside0.mk hc0
  clear hr0 hc0
  have HR1 := Aside0.mk hr1
  have HC1 := Aside0.mk hc1
  clear hr1 hc1
  have HB := Aside0.mk (Below.refl w.heap.size w)
  have HRT := Aside0.mk hrt
  clear hrt
  have H : ((fringelaw20_alive.f).bind fun t585 => ((fringelaw20_fit.f k l0 l1 a3).bind fun t586 => (if t586 = true then (if a2 < (-32) then (fringelaw20_SearchPowers.j0 k l0 l1 a2 a3 t585 true) else (if a2 > 32 then (fringelaw20_SearchPowers.j0 k l0 l1 a2 a3 t585 true) else (fringelaw20_SearchPowers.j0 k l0 l1 a2 a3 t585 (!t585)))) else (fringelaw20_SearchPowers.j0 k l0 l1 a2 a3 t585 true)))) = some r := h
  clear h
  replace H := Option.bind_eq_some_iff.mp H
  obtain ⟨t585, A50, H⟩ := H
  replace H : ((fringelaw20_fit.f k l0 l1 a3).bind fun t586 => (if t586 = true then (if a2 < (-32) then (fringelaw20_SearchPowers.j0 k l0 l1 a2 a3 t585 true) else (if a2 > 32 then (fringelaw20_SearchPowers.j0 k l0 l1 a2 a3 t585 true) else (fringelaw20_SearchPowers.j0 k l0 l1 a2 a3 t585 (!t585)))) else (fringelaw20_SearchPowers.j0 k l0 l1 a2 a3 t585 true))) = some r := H
  have A5 := Aside0.mk A50
  clear A50
  have HC6 := Aside0.mk H
  clear H
  go_enter Try.func9, Try.ntmps9
  go_upto_region 2 with (first | (go_at_call 24; (with_reducible refine (fringelaw20_alive.calls  t585 _ A5.out).mono ?_); rintro e w7 ⟨rfl, hb⟩; have n0_ := Aside0.mk (below_step (by repeat (first | (with_reducible first | exact HB.out | apply below_alloc | apply pw_below_drewN | apply below_drew1) | exact HB.out)) hb); clear HB; have HB := n0_; clear n0_; (try clear hb); (try clear hb2); (try clear hk); (try clear hi)))
  repeat (go_quiet (first | (go_at_call 24; (with_reducible refine (fringelaw20_alive.calls  t585 _ A5.out).mono ?_); rintro e w7 ⟨rfl, hb⟩; have n0_ := Aside0.mk (below_step (by repeat (first | (with_reducible first | exact HB.out | apply below_alloc | apply pw_below_drewN | apply below_drew1) | exact HB.out)) hb); clear HB; have HB := n0_; clear n0_; (try clear hb); (try clear hb2); (try clear hk); (try clear hi))); go_upto_region 2 with (first | (go_at_call 24; (with_reducible refine (fringelaw20_alive.calls  t585 _ A5.out).mono ?_); rintro e w7 ⟨rfl, hb⟩; have n0_ := Aside0.mk (below_step (by repeat (first | (with_reducible first | exact HB.out | apply below_alloc | apply pw_below_drewN | apply below_drew1) | exact HB.out)) hb); clear HB; have HB := n0_; clear n0_; (try clear hb); (try clear hb2); (try clear hk); (try clear hi))))
  (try simp only [Act.put, List.setIfInBounds_toArray, List.set_cons_zero, List.set_cons_succ])
  go_cut [39] (fun v39 wc => ∃ (kq : Nat) (x39_5 : Bool), v39 = .bool x39_5 ∧ Aside0 (fringelaw20_SearchPowers.j0 kq l0 l1 a2 a3 t585 x39_5 = some r) ∧ Aside0 (kq ≤ k) ∧ Aside0 (Below w.heap.size w wc))
  case first =>
    have H := HC6.out
    clear HC6
    replace H := Option.bind_eq_some_iff.mp H
    obtain ⟨t586, A80, H⟩ := H
    replace H : (if t586 = true then (if a2 < (-32) then (fringelaw20_SearchPowers.j0 k l0 l1 a2 a3 t585 true) else (if a2 > 32 then (fringelaw20_SearchPowers.j0 k l0 l1 a2 a3 t585 true) else (fringelaw20_SearchPowers.j0 k l0 l1 a2 a3 t585 (!t585)))) else (fringelaw20_SearchPowers.j0 k l0 l1 a2 a3 t585 true)) = some r := H
    have A8 := Aside0.mk A80
    clear A80
    by_cases c9 : t586 = true
    · subst c9
      have H1 : (if a2 < (-32) then (fringelaw20_SearchPowers.j0 k l0 l1 a2 a3 t585 true) else (if a2 > 32 then (fringelaw20_SearchPowers.j0 k l0 l1 a2 a3 t585 true) else (fringelaw20_SearchPowers.j0 k l0 l1 a2 a3 t585 (!t585)))) = some r := by rw [if_pos rfl] at H; exact H
      clear H
      have H := H1
      clear H1
      by_cases c10 : a2 < (-32)
      · rw [if_pos c10] at H
        have c10b0 : decide (a2 < (-32)) = true := decide_eq_true c10
        clear c10
        (first | rw [c10b0] | (simp only [i64_w, i32_w]; rw [c10b0]) | skip)
        have H' := Aside0.mk H
        clear H
        go_wp2_with (first | (go_at_call 25; (with_reducible refine (fringelaw20_fit.calls k _ _ l0 _ _ l1 a3 true _ ?side1 ?side2 ?side3 ?side4 A8.out).mono ?_); (case side1 => repeat (first | exact (Kd.C_below HR0.out HB.out) | (with_reducible refine Kd.C_alloc ?_ _) | (with_reducible refine Kd.C_drewN ?_ _) | (with_reducible refine Kd.C_drew ?_))); (case side2 => exact HC0.out); (case side3 => repeat (first | exact (Kd.C_below HR1.out HB.out) | (with_reducible refine Kd.C_alloc ?_ _) | (with_reducible refine Kd.C_drewN ?_ _) | (with_reducible refine Kd.C_drew ?_))); (case side4 => exact HC1.out); rintro e w' ⟨rfl, ⟨nd, rfl⟩⟩; (try first | exact ⟨rfl, _, World.drewN_drewN _ _ _⟩ | exact ⟨rfl, _, Eq.trans (World.drewN_drewN _ _ _) (congrArg (World.drewN _) (Nat.add_assoc _ _ _))⟩)))
        repeat (go_quiet (first | (go_at_call 25; (with_reducible refine (fringelaw20_fit.calls k _ _ l0 _ _ l1 a3 true _ ?side1 ?side2 ?side3 ?side4 A8.out).mono ?_); (case side1 => repeat (first | exact (Kd.C_below HR0.out HB.out) | (with_reducible refine Kd.C_alloc ?_ _) | (with_reducible refine Kd.C_drewN ?_ _) | (with_reducible refine Kd.C_drew ?_))); (case side2 => exact HC0.out); (case side3 => repeat (first | exact (Kd.C_below HR1.out HB.out) | (with_reducible refine Kd.C_alloc ?_ _) | (with_reducible refine Kd.C_drewN ?_ _) | (with_reducible refine Kd.C_drew ?_))); (case side4 => exact HC1.out); rintro e w' ⟨rfl, ⟨nd, rfl⟩⟩; (try first | exact ⟨rfl, _, World.drewN_drewN _ _ _⟩ | exact ⟨rfl, _, Eq.trans (World.drewN_drewN _ _ _) (congrArg (World.drewN _) (Nat.add_assoc _ _ _))⟩))); try go_wp2_with (first | (go_at_call 25; (with_reducible refine (fringelaw20_fit.calls k _ _ l0 _ _ l1 a3 true _ ?side1 ?side2 ?side3 ?side4 A8.out).mono ?_); (case side1 => repeat (first | exact (Kd.C_below HR0.out HB.out) | (with_reducible refine Kd.C_alloc ?_ _) | (with_reducible refine Kd.C_drewN ?_ _) | (with_reducible refine Kd.C_drew ?_))); (case side2 => exact HC0.out); (case side3 => repeat (first | exact (Kd.C_below HR1.out HB.out) | (with_reducible refine Kd.C_alloc ?_ _) | (with_reducible refine Kd.C_drewN ?_ _) | (with_reducible refine Kd.C_drew ?_))); (case side4 => exact HC1.out); rintro e w' ⟨rfl, ⟨nd, rfl⟩⟩; (try first | exact ⟨rfl, _, World.drewN_drewN _ _ _⟩ | exact ⟨rfl, _, Eq.trans (World.drewN_drewN _ _ _) (congrArg (World.drewN _) (Nat.add_assoc _ _ _))⟩))))
        go_meet
        case rel => exact ⟨_, (true), (by first | rfl | (simp; done) | (simp [*]; done)), H', ⟨by first | omega | exact Nat.le_refl _⟩, ⟨by repeat (first | (with_reducible first | exact HB.out | apply below_alloc | apply pw_below_drewN | apply below_drew1) | exact HB.out)⟩⟩
      · rw [if_neg c10] at H
        have c10b0 : decide (a2 < (-32)) = false := decide_eq_false c10
        clear c10
        (first | rw [c10b0] | (simp only [i64_w, i32_w]; rw [c10b0]) | skip)
        by_cases c11 : a2 > 32
        · rw [if_pos c11] at H
          have c11b0 : decide (32 < a2) = true := decide_eq_true c11
          clear c11
          have H' := Aside0.mk H
          clear H
          go_wp2_with (first | (go_at_call 25; (with_reducible refine (fringelaw20_fit.calls k _ _ l0 _ _ l1 a3 true _ ?side1 ?side2 ?side3 ?side4 A8.out).mono ?_); (case side1 => repeat (first | exact (Kd.C_below HR0.out HB.out) | (with_reducible refine Kd.C_alloc ?_ _) | (with_reducible refine Kd.C_drewN ?_ _) | (with_reducible refine Kd.C_drew ?_))); (case side2 => exact HC0.out); (case side3 => repeat (first | exact (Kd.C_below HR1.out HB.out) | (with_reducible refine Kd.C_alloc ?_ _) | (with_reducible refine Kd.C_drewN ?_ _) | (with_reducible refine Kd.C_drew ?_))); (case side4 => exact HC1.out); rintro e w' ⟨rfl, ⟨nd, rfl⟩⟩; (try first | exact ⟨rfl, _, World.drewN_drewN _ _ _⟩ | exact ⟨rfl, _, Eq.trans (World.drewN_drewN _ _ _) (congrArg (World.drewN _) (Nat.add_assoc _ _ _))⟩)))
          repeat (go_quiet (first | (go_at_call 25; (with_reducible refine (fringelaw20_fit.calls k _ _ l0 _ _ l1 a3 true _ ?side1 ?side2 ?side3 ?side4 A8.out).mono ?_); (case side1 => repeat (first | exact (Kd.C_below HR0.out HB.out) | (with_reducible refine Kd.C_alloc ?_ _) | (with_reducible refine Kd.C_drewN ?_ _) | (with_reducible refine Kd.C_drew ?_))); (case side2 => exact HC0.out); (case side3 => repeat (first | exact (Kd.C_below HR1.out HB.out) | (with_reducible refine Kd.C_alloc ?_ _) | (with_reducible refine Kd.C_drewN ?_ _) | (with_reducible refine Kd.C_drew ?_))); (case side4 => exact HC1.out); rintro e w' ⟨rfl, ⟨nd, rfl⟩⟩; (try first | exact ⟨rfl, _, World.drewN_drewN _ _ _⟩ | exact ⟨rfl, _, Eq.trans (World.drewN_drewN _ _ _) (congrArg (World.drewN _) (Nat.add_assoc _ _ _))⟩))); try go_wp2_with (first | (go_at_call 25; (with_reducible refine (fringelaw20_fit.calls k _ _ l0 _ _ l1 a3 true _ ?side1 ?side2 ?side3 ?side4 A8.out).mono ?_); (case side1 => repeat (first | exact (Kd.C_below HR0.out HB.out) | (with_reducible refine Kd.C_alloc ?_ _) | (with_reducible refine Kd.C_drewN ?_ _) | (with_reducible refine Kd.C_drew ?_))); (case side2 => exact HC0.out); (case side3 => repeat (first | exact (Kd.C_below HR1.out HB.out) | (with_reducible refine Kd.C_alloc ?_ _) | (with_reducible refine Kd.C_drewN ?_ _) | (with_reducible refine Kd.C_drew ?_))); (case side4 => exact HC1.out); rintro e w' ⟨rfl, ⟨nd, rfl⟩⟩; (try first | exact ⟨rfl, _, World.drewN_drewN _ _ _⟩ | exact ⟨rfl, _, Eq.trans (World.drewN_drewN _ _ _) (congrArg (World.drewN _) (Nat.add_assoc _ _ _))⟩))))
          go_meet
          case rel => exact ⟨_, (true), (by first | rfl | (simp; done) | (simp [*]; done)), H', ⟨by first | omega | exact Nat.le_refl _⟩, ⟨by repeat (first | (with_reducible first | exact HB.out | apply below_alloc | apply pw_below_drewN | apply below_drew1) | exact HB.out)⟩⟩
        · rw [if_neg c11] at H
          have c11b0 : decide (32 < a2) = false := decide_eq_false c11
          clear c11
          have H' := Aside0.mk H
          clear H
          go_wp2_with (first | (go_at_call 25; (with_reducible refine (fringelaw20_fit.calls k _ _ l0 _ _ l1 a3 true _ ?side1 ?side2 ?side3 ?side4 A8.out).mono ?_); (case side1 => repeat (first | exact (Kd.C_below HR0.out HB.out) | (with_reducible refine Kd.C_alloc ?_ _) | (with_reducible refine Kd.C_drewN ?_ _) | (with_reducible refine Kd.C_drew ?_))); (case side2 => exact HC0.out); (case side3 => repeat (first | exact (Kd.C_below HR1.out HB.out) | (with_reducible refine Kd.C_alloc ?_ _) | (with_reducible refine Kd.C_drewN ?_ _) | (with_reducible refine Kd.C_drew ?_))); (case side4 => exact HC1.out); rintro e w' ⟨rfl, ⟨nd, rfl⟩⟩; (try first | exact ⟨rfl, _, World.drewN_drewN _ _ _⟩ | exact ⟨rfl, _, Eq.trans (World.drewN_drewN _ _ _) (congrArg (World.drewN _) (Nat.add_assoc _ _ _))⟩)))
          repeat (go_quiet (first | (go_at_call 25; (with_reducible refine (fringelaw20_fit.calls k _ _ l0 _ _ l1 a3 true _ ?side1 ?side2 ?side3 ?side4 A8.out).mono ?_); (case side1 => repeat (first | exact (Kd.C_below HR0.out HB.out) | (with_reducible refine Kd.C_alloc ?_ _) | (with_reducible refine Kd.C_drewN ?_ _) | (with_reducible refine Kd.C_drew ?_))); (case side2 => exact HC0.out); (case side3 => repeat (first | exact (Kd.C_below HR1.out HB.out) | (with_reducible refine Kd.C_alloc ?_ _) | (with_reducible refine Kd.C_drewN ?_ _) | (with_reducible refine Kd.C_drew ?_))); (case side4 => exact HC1.out); rintro e w' ⟨rfl, ⟨nd, rfl⟩⟩; (try first | exact ⟨rfl, _, World.drewN_drewN _ _ _⟩ | exact ⟨rfl, _, Eq.trans (World.drewN_drewN _ _ _) (congrArg (World.drewN _) (Nat.add_assoc _ _ _))⟩))); try go_wp2_with (first | (go_at_call 25; (with_reducible refine (fringelaw20_fit.calls k _ _ l0 _ _ l1 a3 true _ ?side1 ?side2 ?side3 ?side4 A8.out).mono ?_); (case side1 => repeat (first | exact (Kd.C_below HR0.out HB.out) | (with_reducible refine Kd.C_alloc ?_ _) | (with_reducible refine Kd.C_drewN ?_ _) | (with_reducible refine Kd.C_drew ?_))); (case side2 => exact HC0.out); (case side3 => repeat (first | exact (Kd.C_below HR1.out HB.out) | (with_reducible refine Kd.C_alloc ?_ _) | (with_reducible refine Kd.C_drewN ?_ _) | (with_reducible refine Kd.C_drew ?_))); (case side4 => exact HC1.out); rintro e w' ⟨rfl, ⟨nd, rfl⟩⟩; (try first | exact ⟨rfl, _, World.drewN_drewN _ _ _⟩ | exact ⟨rfl, _, Eq.trans (World.drewN_drewN _ _ _) (congrArg (World.drewN _) (Nat.add_assoc _ _ _))⟩))))
          go_meet
          case rel => exact ⟨_, (!t585), (by first | rfl | (simp; done) | (simp [*]; done)), H', ⟨by first | omega | exact Nat.le_refl _⟩, ⟨by repeat (first | (with_reducible first | exact HB.out | apply below_alloc | apply pw_below_drewN | apply below_drew1) | exact HB.out)⟩⟩
    · replace c9 := Bool.eq_false_iff.mpr c9
      subst c9
      have H1 : (fringelaw20_SearchPowers.j0 k l0 l1 a2 a3 t585 true) = some r := by rw [if_neg (show ¬ (false = true) by decide)] at H; exact H
      clear H
      have H := H1
      clear H1
      have H' := Aside0.mk H
      clear H
      go_wp2_with (first | (go_at_call 25; (with_reducible refine (fringelaw20_fit.calls k _ _ l0 _ _ l1 a3 false _ ?side1 ?side2 ?side3 ?side4 A8.out).mono ?_); (case side1 => repeat (first | exact (Kd.C_below HR0.out HB.out) | (with_reducible refine Kd.C_alloc ?_ _) | (with_reducible refine Kd.C_drewN ?_ _) | (with_reducible refine Kd.C_drew ?_))); (case side2 => exact HC0.out); (case side3 => repeat (first | exact (Kd.C_below HR1.out HB.out) | (with_reducible refine Kd.C_alloc ?_ _) | (with_reducible refine Kd.C_drewN ?_ _) | (with_reducible refine Kd.C_drew ?_))); (case side4 => exact HC1.out); rintro e w' ⟨rfl, ⟨nd, rfl⟩⟩; (try first | exact ⟨rfl, _, World.drewN_drewN _ _ _⟩ | exact ⟨rfl, _, Eq.trans (World.drewN_drewN _ _ _) (congrArg (World.drewN _) (Nat.add_assoc _ _ _))⟩)))
      repeat (go_quiet (first | (go_at_call 25; (with_reducible refine (fringelaw20_fit.calls k _ _ l0 _ _ l1 a3 false _ ?side1 ?side2 ?side3 ?side4 A8.out).mono ?_); (case side1 => repeat (first | exact (Kd.C_below HR0.out HB.out) | (with_reducible refine Kd.C_alloc ?_ _) | (with_reducible refine Kd.C_drewN ?_ _) | (with_reducible refine Kd.C_drew ?_))); (case side2 => exact HC0.out); (case side3 => repeat (first | exact (Kd.C_below HR1.out HB.out) | (with_reducible refine Kd.C_alloc ?_ _) | (with_reducible refine Kd.C_drewN ?_ _) | (with_reducible refine Kd.C_drew ?_))); (case side4 => exact HC1.out); rintro e w' ⟨rfl, ⟨nd, rfl⟩⟩; (try first | exact ⟨rfl, _, World.drewN_drewN _ _ _⟩ | exact ⟨rfl, _, Eq.trans (World.drewN_drewN _ _ _) (congrArg (World.drewN _) (Nat.add_assoc _ _ _))⟩))); try go_wp2_with (first | (go_at_call 25; (with_reducible refine (fringelaw20_fit.calls k _ _ l0 _ _ l1 a3 false _ ?side1 ?side2 ?side3 ?side4 A8.out).mono ?_); (case side1 => repeat (first | exact (Kd.C_below HR0.out HB.out) | (with_reducible refine Kd.C_alloc ?_ _) | (with_reducible refine Kd.C_drewN ?_ _) | (with_reducible refine Kd.C_drew ?_))); (case side2 => exact HC0.out); (case side3 => repeat (first | exact (Kd.C_below HR1.out HB.out) | (with_reducible refine Kd.C_alloc ?_ _) | (with_reducible refine Kd.C_drewN ?_ _) | (with_reducible refine Kd.C_drew ?_))); (case side4 => exact HC1.out); rintro e w' ⟨rfl, ⟨nd, rfl⟩⟩; (try first | exact ⟨rfl, _, World.drewN_drewN _ _ _⟩ | exact ⟨rfl, _, Eq.trans (World.drewN_drewN _ _ _) (congrArg (World.drewN _) (Nat.add_assoc _ _ _))⟩))))
      go_meet
      case rel => exact ⟨_, (true), (by first | rfl | (simp; done) | (simp [*]; done)), H', ⟨by first | omega | exact Nat.le_refl _⟩, ⟨by repeat (first | (with_reducible first | exact HB.out | apply below_alloc | apply pw_below_drewN | apply below_drew1) | exact HB.out)⟩⟩
  case rest =>
    clear HC6
    try clear c1
    try clear p2
    try clear c9
    try clear c10
    try clear c10b0
    try clear c11
    try clear c11b0
    obtain ⟨kq, x39_5, rfl, HA, HJ5, HB⟩ := hcut
    cases kq with
    | zero => exact absurd HA.out (by simp [fringelaw20_SearchPowers.j0])
    | succ kj5 =>
      have H := HA.out
      clear HA
      simp only [fringelaw20_SearchPowers.j0] at H
      by_cases c12 : x39_5 = true
      · subst c12
        have H1 : (some t585) = some r := by rw [if_pos rfl] at H; exact H
        clear H
        have H := H1
        clear H1
        obtain rfl := Option.some.inj H
        go_wp2
        repeat (go_quiet (fail); try go_wp2)
        go_ret
        exact ⟨by first | rfl | (simp [errW_none, errW_some] <;> rfl) | (simp [*, errW_none, errW_some] <;> rfl), by repeat (first | (with_reducible first | exact HB.out | apply below_alloc | apply pw_below_drewN | apply below_drew1) | exact HB.out)⟩
      · replace c12 := Bool.eq_false_iff.mpr c12
        subst c12
        have H1 : (fringelaw20_SearchPowers.l0 kj5 l0 l1 a2 a3 t585 0 0) = some r := by rw [if_neg (show ¬ (false = true) by decide)] at H; exact H
        clear H
        have H := H1
        clear H1
        have H' := Aside0.mk H
        clear H
        go_wp2
        repeat (go_quiet (fail); try go_wp2)
        go_loopg [10, 11] kj5 (fun kq v10 v11 w' => ∃ (x10_2 : Int) (x11_2 : Int), v10 = .int .i64 x10_2 ∧ v11 = .int .i64 x11_2 ∧ Aside0 (fringelaw20_SearchPowers.l0 kq l0 l1 a2 a3 t585 x10_2 x11_2 = some r) ∧ Aside0 (kq ≤ kj5) ∧ Aside0 (Below w.heap.size w w'))
        case atStart => exact ⟨(0), (0), (by first | rfl | (simp; done) | (simp [*]; done)), (by first | rfl | (simp; done) | (simp [*]; done)), H', ⟨Nat.le_refl _⟩, ⟨by repeat (first | (with_reducible first | exact HB.out | apply below_alloc | apply pw_below_drewN | apply below_drew1) | exact HB.out)⟩⟩
        case round =>
          clear H'
          try clear c1
          try clear p2
          try clear c9
          try clear c10
          try clear c10b0
          try clear c11
          try clear c11b0
          try clear c12
          try clear p2
          obtain ⟨x10_2, x11_2, rfl, rfl, HA, HK2, HB⟩ := hrel
          cases gk with
          | zero => exact absurd HA.out (by simp [fringelaw20_SearchPowers.l0])
          | succ k2 =>
            have H := HA.out
            clear HA
            simp only [fringelaw20_SearchPowers.l0] at H
            by_cases c13 : x11_2 < 4
            · rw [if_pos c13] at H
              have c13b0 : decide (x11_2 < 4) = true := decide_eq_true c13
              clear c13
              replace H := Option.bind_eq_some_iff.mp H
              obtain ⟨⟨t587, t588, t589, t590, t591, t592⟩, A140, H⟩ := H
              replace H : (if t592 = 0 then (fringelaw20_SearchPowers.l0 k2 l0 l1 a2 a3 t585 (wrap64 (x10_2 + t591)) (wrap64 (x11_2 + 1))) else (some false)) = some r := H
              have A14 := Aside0.mk A140
              clear A140
              by_cases c15 : t592 = 0
              · rw [if_pos c15] at H
                have c15b0 : (t592 == 0) = true := beq_iff_eq.mpr c15
                have c15b1 : (t592 != 0) = false := bne_eq_false_iff_eq.mpr c15
                clear c15
                have H' := Aside0.mk H
                clear H
                go_wp2_with (first | (go_at_call 13; (with_reducible refine (search_At.calls k2 _ _ l0 _ _ l1 a2 x11_2 a3 t587 t588 t589 t590 t591 t592 _ ?side1 ?side2 ?side3 ?side4 A14.out).mono ?_); (case side1 => repeat (first | exact (Kd.C_below HR0.out HB.out) | (with_reducible refine Kd.C_alloc ?_ _) | (with_reducible refine Kd.C_drewN ?_ _) | (with_reducible refine Kd.C_drew ?_))); (case side2 => exact HC0.out); (case side3 => repeat (first | exact (Kd.C_below HR1.out HB.out) | (with_reducible refine Kd.C_alloc ?_ _) | (with_reducible refine Kd.C_drewN ?_ _) | (with_reducible refine Kd.C_drew ?_))); (case side4 => exact HC1.out); rintro e w16 ⟨rfl, hb⟩; have n0_ := Aside0.mk (below_step (by repeat (first | (with_reducible first | exact HB.out | apply below_alloc | apply pw_below_drewN | apply below_drew1) | exact HB.out)) hb); clear HB; have HB := n0_; clear n0_; (try clear hb); (try clear hb2); (try clear hk); (try clear hi)) | ((with_reducible refine gate_dst (N := 12) rfl ?_); (try (refine gate_guard (by rfl) ?_; dsimp only)); refine box_event ?hg (N := 12) ?hd (cs := #[.int .i64 0, .int .i64 0, .int .i64 0, .int .i64 0, .int .i64 0]) (t := 32) ?hr ?_; (case hd => rfl); (case hg => rfl); (case hr => first | (go_simp; done) | (go_simp; rfl)); intro gb593 hg w17 hbox hb; have n0_ := Aside0.mk (below_step (by repeat (first | (with_reducible first | exact HB.out | apply below_alloc | apply pw_below_drewN | apply below_drew1) | exact HB.out)) hb); have n1_ := Aside0.mk (hbox); have n2_ := Aside0.mk ((by rw [hg]; exact (below_size (by repeat (first | (with_reducible first | exact HB.out | apply below_alloc | apply pw_below_drewN | apply below_drew1) | exact HB.out))) : w.heap.size ≤ gb593)); have n3_ := Aside0.mk ((by rw [hg]; exact (below_size (by repeat (first | (with_reducible first | exact HB.out | apply below_alloc | apply pw_below_drewN | apply below_drew1) | exact HB.out))) : w.heap.size ≤ gb593)); clear HB; have HB := n0_; have BK593 := n1_; have GW593 := n2_; have GE593 := n3_; clear n0_ n1_ n2_ n3_; clear hb hbox hg; have hcz18_0 : w17.cell? ⟨gb593, 0, none⟩ = some (.int .i64 0) := (blk_cell BK593.out 0).trans rfl; have hcz18_1 : w17.cell? ⟨gb593, 1, none⟩ = some (.int .i64 0) := (blk_cell BK593.out 1).trans rfl; have hcz18_2 : w17.cell? ⟨gb593, 2, none⟩ = some (.int .i64 0) := (blk_cell BK593.out 2).trans rfl; have hcz18_3 : w17.cell? ⟨gb593, 3, none⟩ = some (.int .i64 0) := (blk_cell BK593.out 3).trans rfl; have hcz18_4 : w17.cell? ⟨gb593, 4, none⟩ = some (.int .i64 0) := (blk_cell BK593.out 4).trans rfl; have hfz18_0 := blk_frozen BK593.out 0; have hfz18_1 := blk_frozen BK593.out 1; have hfz18_2 := blk_frozen BK593.out 2; have hfz18_3 := blk_frozen BK593.out 3; have hfz18_4 := blk_frozen BK593.out 4))
                repeat (go_quiet (first | (go_at_call 13; (with_reducible refine (search_At.calls k2 _ _ l0 _ _ l1 a2 x11_2 a3 t587 t588 t589 t590 t591 t592 _ ?side1 ?side2 ?side3 ?side4 A14.out).mono ?_); (case side1 => repeat (first | exact (Kd.C_below HR0.out HB.out) | (with_reducible refine Kd.C_alloc ?_ _) | (with_reducible refine Kd.C_drewN ?_ _) | (with_reducible refine Kd.C_drew ?_))); (case side2 => exact HC0.out); (case side3 => repeat (first | exact (Kd.C_below HR1.out HB.out) | (with_reducible refine Kd.C_alloc ?_ _) | (with_reducible refine Kd.C_drewN ?_ _) | (with_reducible refine Kd.C_drew ?_))); (case side4 => exact HC1.out); rintro e w16 ⟨rfl, hb⟩; have n0_ := Aside0.mk (below_step (by repeat (first | (with_reducible first | exact HB.out | apply below_alloc | apply pw_below_drewN | apply below_drew1) | exact HB.out)) hb); clear HB; have HB := n0_; clear n0_; (try clear hb); (try clear hb2); (try clear hk); (try clear hi)) | ((with_reducible refine gate_dst (N := 12) rfl ?_); (try (refine gate_guard (by rfl) ?_; dsimp only)); refine box_event ?hg (N := 12) ?hd (cs := #[.int .i64 0, .int .i64 0, .int .i64 0, .int .i64 0, .int .i64 0]) (t := 32) ?hr ?_; (case hd => rfl); (case hg => rfl); (case hr => first | (go_simp; done) | (go_simp; rfl)); intro gb593 hg w17 hbox hb; have n0_ := Aside0.mk (below_step (by repeat (first | (with_reducible first | exact HB.out | apply below_alloc | apply pw_below_drewN | apply below_drew1) | exact HB.out)) hb); have n1_ := Aside0.mk (hbox); have n2_ := Aside0.mk ((by rw [hg]; exact (below_size (by repeat (first | (with_reducible first | exact HB.out | apply below_alloc | apply pw_below_drewN | apply below_drew1) | exact HB.out))) : w.heap.size ≤ gb593)); have n3_ := Aside0.mk ((by rw [hg]; exact (below_size (by repeat (first | (with_reducible first | exact HB.out | apply below_alloc | apply pw_below_drewN | apply below_drew1) | exact HB.out))) : w.heap.size ≤ gb593)); clear HB; have HB := n0_; have BK593 := n1_; have GW593 := n2_; have GE593 := n3_; clear n0_ n1_ n2_ n3_; clear hb hbox hg; have hcz18_0 : w17.cell? ⟨gb593, 0, none⟩ = some (.int .i64 0) := (blk_cell BK593.out 0).trans rfl; have hcz18_1 : w17.cell? ⟨gb593, 1, none⟩ = some (.int .i64 0) := (blk_cell BK593.out 1).trans rfl; have hcz18_2 : w17.cell? ⟨gb593, 2, none⟩ = some (.int .i64 0) := (blk_cell BK593.out 2).trans rfl; have hcz18_3 : w17.cell? ⟨gb593, 3, none⟩ = some (.int .i64 0) := (blk_cell BK593.out 3).trans rfl; have hcz18_4 : w17.cell? ⟨gb593, 4, none⟩ = some (.int .i64 0) := (blk_cell BK593.out 4).trans rfl; have hfz18_0 := blk_frozen BK593.out 0; have hfz18_1 := blk_frozen BK593.out 1; have hfz18_2 := blk_frozen BK593.out 2; have hfz18_3 := blk_frozen BK593.out 3; have hfz18_4 := blk_frozen BK593.out 4)); try go_wp2_with (first | (go_at_call 13; (with_reducible refine (search_At.calls k2 _ _ l0 _ _ l1 a2 x11_2 a3 t587 t588 t589 t590 t591 t592 _ ?side1 ?side2 ?side3 ?side4 A14.out).mono ?_); (case side1 => repeat (first | exact (Kd.C_below HR0.out HB.out) | (with_reducible refine Kd.C_alloc ?_ _) | (with_reducible refine Kd.C_drewN ?_ _) | (with_reducible refine Kd.C_drew ?_))); (case side2 => exact HC0.out); (case side3 => repeat (first | exact (Kd.C_below HR1.out HB.out) | (with_reducible refine Kd.C_alloc ?_ _) | (with_reducible refine Kd.C_drewN ?_ _) | (with_reducible refine Kd.C_drew ?_))); (case side4 => exact HC1.out); rintro e w16 ⟨rfl, hb⟩; have n0_ := Aside0.mk (below_step (by repeat (first | (with_reducible first | exact HB.out | apply below_alloc | apply pw_below_drewN | apply below_drew1) | exact HB.out)) hb); clear HB; have HB := n0_; clear n0_; (try clear hb); (try clear hb2); (try clear hk); (try clear hi)) | ((with_reducible refine gate_dst (N := 12) rfl ?_); (try (refine gate_guard (by rfl) ?_; dsimp only)); refine box_event ?hg (N := 12) ?hd (cs := #[.int .i64 0, .int .i64 0, .int .i64 0, .int .i64 0, .int .i64 0]) (t := 32) ?hr ?_; (case hd => rfl); (case hg => rfl); (case hr => first | (go_simp; done) | (go_simp; rfl)); intro gb593 hg w17 hbox hb; have n0_ := Aside0.mk (below_step (by repeat (first | (with_reducible first | exact HB.out | apply below_alloc | apply pw_below_drewN | apply below_drew1) | exact HB.out)) hb); have n1_ := Aside0.mk (hbox); have n2_ := Aside0.mk ((by rw [hg]; exact (below_size (by repeat (first | (with_reducible first | exact HB.out | apply below_alloc | apply pw_below_drewN | apply below_drew1) | exact HB.out))) : w.heap.size ≤ gb593)); have n3_ := Aside0.mk ((by rw [hg]; exact (below_size (by repeat (first | (with_reducible first | exact HB.out | apply below_alloc | apply pw_below_drewN | apply below_drew1) | exact HB.out))) : w.heap.size ≤ gb593)); clear HB; have HB := n0_; have BK593 := n1_; have GW593 := n2_; have GE593 := n3_; clear n0_ n1_ n2_ n3_; clear hb hbox hg; have hcz18_0 : w17.cell? ⟨gb593, 0, none⟩ = some (.int .i64 0) := (blk_cell BK593.out 0).trans rfl; have hcz18_1 : w17.cell? ⟨gb593, 1, none⟩ = some (.int .i64 0) := (blk_cell BK593.out 1).trans rfl; have hcz18_2 : w17.cell? ⟨gb593, 2, none⟩ = some (.int .i64 0) := (blk_cell BK593.out 2).trans rfl; have hcz18_3 : w17.cell? ⟨gb593, 3, none⟩ = some (.int .i64 0) := (blk_cell BK593.out 3).trans rfl; have hcz18_4 : w17.cell? ⟨gb593, 4, none⟩ = some (.int .i64 0) := (blk_cell BK593.out 4).trans rfl; have hfz18_0 := blk_frozen BK593.out 0; have hfz18_1 := blk_frozen BK593.out 1; have hfz18_2 := blk_frozen BK593.out 2; have hfz18_3 := blk_frozen BK593.out 3; have hfz18_4 := blk_frozen BK593.out 4)))
                go_roundg k2
                case measure => have := HJ5.out; have := HK2.out; omega
                case rel => exact ⟨(wrap64 (x10_2 + t591)), (wrap64 (x11_2 + 1)), (by first | rfl | (simp; done) | (simp [*]; done)), (by first | rfl | (simp; done) | (simp [*]; done)), H', ⟨by have := HJ5.out; have := HK2.out; omega⟩, ⟨by repeat (first | (with_reducible first | exact HB.out | apply below_alloc | apply pw_below_drewN | apply below_drew1 | refine below_set ?_ GE593.out) | exact HB.out)⟩⟩
              · rw [if_neg c15] at H
                have c15b0 : (t592 == 0) = false := beq_eq_false_iff_ne.mpr c15
                have c15b1 : (t592 != 0) = true := bne_iff_ne.mpr c15
                exact absurd ((Option.some.inj H).trans HRT.out) (by decide)
            · rw [if_neg c13] at H
              have c13b0 : decide (x11_2 < 4) = false := decide_eq_false c13
              clear c13
              have H' := Aside0.mk H
              clear H
              go_wp2
              repeat (go_quiet (fail); try go_wp2)
              go_loopg [14, 15] k2 (fun kq v14 v15 w' => ∃ (x14_3 : Int) (x15_3 : Int), v14 = .int .i64 x14_3 ∧ v15 = .int .i64 x15_3 ∧ Aside0 (fringelaw20_SearchPowers.l1 kq l0 l1 a2 a3 t585 x10_2 x14_3 x15_3 = some r) ∧ Aside0 (kq ≤ k2) ∧ Aside0 (Below w.heap.size w w'))
              case atStart => exact ⟨(0), (0), (by first | rfl | (simp; done) | (simp [*]; done)), (by first | rfl | (simp; done) | (simp [*]; done)), H', ⟨Nat.le_refl _⟩, ⟨by repeat (first | (with_reducible first | exact HB.out | apply below_alloc | apply pw_below_drewN | apply below_drew1) | exact HB.out)⟩⟩
              case round =>
                clear H'
                try clear c1
                try clear p2
                try clear p6
                try clear c9
                try clear c10
                try clear c10b0
                try clear c11
                try clear c11b0
                try clear c12
                try clear c13
                try clear c13b0
                try clear c15
                try clear c15b0
                try clear c15b1
                try clear hcz18_0
                try clear hcz18_1
                try clear hcz18_2
                try clear hcz18_3
                try clear hcz18_4
                try clear hfz18_0
                try clear hfz18_1
                try clear hfz18_2
                try clear hfz18_3
                try clear hfz18_4
                try clear p2
                obtain ⟨x14_3, x15_3, rfl, rfl, HA, HK3, HB⟩ := hrel
                cases gk with
                | zero => exact absurd HA.out (by simp [fringelaw20_SearchPowers.l1])
                | succ k3 =>
                  have H := HA.out
                  clear HA
                  simp only [fringelaw20_SearchPowers.l1] at H
                  by_cases c19 : x15_3 < 4
                  · rw [if_pos c19] at H
                    have c19b0 : decide (x15_3 < 4) = true := decide_eq_true c19
                    clear c19
                    have H' := Aside0.mk H
                    clear H
                    go_wp2
                    repeat (go_quiet (fail); try go_wp2)
                    go_loopg [16, 17] k3 (fun kq v16 v17 w' => ∃ (x16_4 : Int) (x17_4 : Int), v16 = .int .i64 x16_4 ∧ v17 = .int .i64 x17_4 ∧ Aside0 (fringelaw20_SearchPowers.l2 kq l0 l1 a2 a3 t585 x10_2 x14_3 x15_3 x16_4 x17_4 = some r) ∧ Aside0 (kq ≤ k3) ∧ Aside0 (Below w.heap.size w w'))
                    case atStart => exact ⟨(0), (0), (by first | rfl | (simp; done) | (simp [*]; done)), (by first | rfl | (simp; done) | (simp [*]; done)), H', ⟨Nat.le_refl _⟩, ⟨by repeat (first | (with_reducible first | exact HB.out | apply below_alloc | apply pw_below_drewN | apply below_drew1) | exact HB.out)⟩⟩
                    case round =>
                      clear H'
                      try clear c1
                      try clear p2
                      try clear p6
                      try clear c9
                      try clear c10
                      try clear c10b0
                      try clear c11
                      try clear c11b0
                      try clear c12
                      try clear c13
                      try clear c13b0
                      try clear c15
                      try clear c15b0
                      try clear c15b1
                      try clear c19
                      try clear c19b0
                      try clear hcz18_0
                      try clear hcz18_1
                      try clear hcz18_2
                      try clear hcz18_3
                      try clear hcz18_4
                      try clear hfz18_0
                      try clear hfz18_1
                      try clear hfz18_2
                      try clear hfz18_3
                      try clear hfz18_4
                      try clear p2
                      try clear p6
                      obtain ⟨x16_4, x17_4, rfl, rfl, HA, HK4, HB⟩ := hrel
                      cases gk with
                      | zero => exact absurd HA.out (by simp [fringelaw20_SearchPowers.l2])
                      | succ k4 =>
                        have H := HA.out
                        clear HA
                        simp only [fringelaw20_SearchPowers.l2] at H
                        by_cases c20 : x17_4 < (l0.length : Int)
                        · rw [if_pos c20] at H
                          have c20b0 : decide (x17_4 < (l0.length : Int)) = true := decide_eq_true c20
                          clear c20
                          by_cases c21 : a3 = 0
                          · rw [if_pos c21] at H
                            exact absurd H (by simp)
                          · rw [if_neg c21] at H
                            have c21b0 : (a3 == 0) = false := beq_eq_false_iff_ne.mpr c21
                            have c21b1 : (a3 != 0) = true := bne_iff_ne.mpr c21
                            by_cases c22 : (Int.tmod (wrap64 (Int.tdiv x17_4 a3)) 4) = x15_3
                            · rw [if_pos c22] at H
                              have c22b0 : ((Int.tmod (wrap64 (Int.tdiv x17_4 a3)) 4) == x15_3) = true := beq_iff_eq.mpr c22
                              have c22b1 : ((Int.tmod (wrap64 (Int.tdiv x17_4 a3)) 4) != x15_3) = false := bne_eq_false_iff_eq.mpr c22
                              clear c22
                              by_cases c23 : (wrap64 (x17_4 + a2)) ≥ 0
                              · rw [if_pos c23] at H
                                have c23b0 : decide (0 ≤ (wrap64 (x17_4 + a2))) = true := decide_eq_true c23
                                clear c23
                                by_cases c24 : (wrap64 (x17_4 + a2)) < (l1.length : Int)
                                · rw [if_pos c24] at H
                                  have c24b0 : decide ((wrap64 (x17_4 + a2)) < (l1.length : Int)) = true := decide_eq_true c24
                                  clear c24
                                  by_cases c25 : 0 ≤ x17_4
                                  · rw [if_pos c25] at H
                                    have c25b0 : decide (0 ≤ x17_4) = true := decide_eq_true c25
                                    clear c25
                                    obtain ⟨ji26, hji26⟩ : ∃ j_ : Int, (wrap64 (x17_4 + a2)) = j_ := ⟨_, rfl⟩
                                    replace H : (if 0 ≤ (ji26) then (fringelaw20_SearchPowers.l2 k4 l0 l1 a2 a3 t585 x10_2 x14_3 x15_3 (wrap64 (x16_4 + (wrap64 ((rd l0 x17_4) * (rd l1 (ji26)))))) (wrap64 (x17_4 + 1))) else (none)) = some r := by first | (rw [hji26] at H; exact H) | (simp only [hji26] at H ⊢; exact H)
                                    (try rw [hji26] at c23b0)
                                    (try rw [hji26] at c24b0)
                                    have hji26w : (IntKind.i64.wrap (x17_4 + a2)) = ji26 := (i64_w _).trans hji26
                                    by_cases c27 : 0 ≤ (ji26)
                                    · rw [if_pos c27] at H
                                      have c27b0 : decide (0 ≤ (ji26)) = true := decide_eq_true c27
                                      clear c27
                                      have H' := Aside0.mk H
                                      clear H
                                      have p606 : 0 ≤ (x17_4 : Int) := of_decide_eq_true (by first | (with_reducible assumption) | assumption)
                                      have q606 : x17_4 < (l0.length : Int) := of_decide_eq_true (by first | (with_reducible assumption) | assumption)
                                      obtain ⟨ad606, e606, hx606_0⟩ := Kd.at_int HR0.out x17_4 p606 q606
                                      cases e606
                                      replace hx606_0 := (HB.out.cell (World.block_lt_of_cell? w _ hx606_0)).trans hx606_0
                                      replace p606 := eq_true p606
                                      replace q606 := eq_true q606
                                      have p607 : 0 ≤ ((ji26) : Int) := of_decide_eq_true (by first | (with_reducible assumption) | assumption)
                                      have q607 : (ji26) < (l1.length : Int) := of_decide_eq_true (by first | (with_reducible assumption) | assumption)
                                      obtain ⟨ad607, e607, hx607_0⟩ := Kd.at_int HR1.out (ji26) p607 q607
                                      cases e607
                                      replace hx607_0 := (HB.out.cell (World.block_lt_of_cell? w _ hx607_0)).trans hx607_0
                                      replace p607 := eq_true p607
                                      replace q607 := eq_true q607
                                      go_wp2
                                      repeat (go_quiet (fail); try go_wp2)
                                      go_roundg k4
                                      case measure => have := HJ5.out; have := HK2.out; have := HK3.out; have := HK4.out; omega
                                      case rel => exact ⟨(wrap64 (x16_4 + (wrap64 ((rd l0 x17_4) * (rd l1 (ji26)))))), (wrap64 (x17_4 + 1)), (by first | rfl | (simp; done) | (simp only [← hji26] <;> (first | rfl | simp)) | (simp [*]; done)), (by first | rfl | (simp; done) | (simp [*]; done)), H', ⟨by have := HJ5.out; have := HK2.out; have := HK3.out; have := HK4.out; omega⟩, ⟨by repeat (first | (with_reducible first | exact HB.out | apply below_alloc | apply pw_below_drewN | apply below_drew1) | exact HB.out)⟩⟩
                                    · rw [if_neg c27] at H
                                      exact absurd H (by simp)
                                  · rw [if_neg c25] at H
                                    exact absurd H (by simp)
                                · rw [if_neg c24] at H
                                  have c24b0 : decide ((wrap64 (x17_4 + a2)) < (l1.length : Int)) = false := decide_eq_false c24
                                  clear c24
                                  have H' := Aside0.mk H
                                  clear H
                                  go_wp2
                                  repeat (go_quiet (fail); try go_wp2)
                                  go_roundg k4
                                  case measure => have := HJ5.out; have := HK2.out; have := HK3.out; have := HK4.out; omega
                                  case rel => exact ⟨(x16_4), (wrap64 (x17_4 + 1)), (by first | rfl | (simp; done) | (simp [*]; done)), (by first | rfl | (simp; done) | (simp [*]; done)), H', ⟨by have := HJ5.out; have := HK2.out; have := HK3.out; have := HK4.out; omega⟩, ⟨by repeat (first | (with_reducible first | exact HB.out | apply below_alloc | apply pw_below_drewN | apply below_drew1) | exact HB.out)⟩⟩
                              · rw [if_neg c23] at H
                                have c23b0 : decide (0 ≤ (wrap64 (x17_4 + a2))) = false := decide_eq_false c23
                                clear c23
                                have H' := Aside0.mk H
                                clear H
                                go_wp2
                                repeat (go_quiet (fail); try go_wp2)
                                go_roundg k4
                                case measure => have := HJ5.out; have := HK2.out; have := HK3.out; have := HK4.out; omega
                                case rel => exact ⟨(x16_4), (wrap64 (x17_4 + 1)), (by first | rfl | (simp; done) | (simp [*]; done)), (by first | rfl | (simp; done) | (simp [*]; done)), H', ⟨by have := HJ5.out; have := HK2.out; have := HK3.out; have := HK4.out; omega⟩, ⟨by repeat (first | (with_reducible first | exact HB.out | apply below_alloc | apply pw_below_drewN | apply below_drew1) | exact HB.out)⟩⟩
                            · rw [if_neg c22] at H
                              have c22b0 : ((Int.tmod (wrap64 (Int.tdiv x17_4 a3)) 4) == x15_3) = false := beq_eq_false_iff_ne.mpr c22
                              have c22b1 : ((Int.tmod (wrap64 (Int.tdiv x17_4 a3)) 4) != x15_3) = true := bne_iff_ne.mpr c22
                              have H' := Aside0.mk H
                              clear H
                              go_wp2
                              repeat (go_quiet (fail); try go_wp2)
                              go_roundg k4
                              case measure => have := HJ5.out; have := HK2.out; have := HK3.out; have := HK4.out; omega
                              case rel => exact ⟨(x16_4), (wrap64 (x17_4 + 1)), (by first | rfl | (simp; done) | (simp [*]; done)), (by first | rfl | (simp; done) | (simp [*]; done)), H', ⟨by have := HJ5.out; have := HK2.out; have := HK3.out; have := HK4.out; omega⟩, ⟨by repeat (first | (with_reducible first | exact HB.out | apply below_alloc | apply pw_below_drewN | apply below_drew1) | exact HB.out)⟩⟩
                        · rw [if_neg c20] at H
                          have c20b0 : decide (x17_4 < (l0.length : Int)) = false := decide_eq_false c20
                          clear c20
                          have H' := Aside0.mk H
                          clear H
                          go_wp2
                          repeat (go_quiet (fail); try go_wp2)
                          go_roundg k4
                          case measure => have := HJ5.out; have := HK2.out; have := HK3.out; have := HK4.out; omega
                          case rel => exact ⟨(wrap64 (x14_3 + (wrap64 (x16_4 * x16_4)))), (wrap64 (x15_3 + 1)), (by first | rfl | (simp; done) | (simp [*]; done)), (by first | rfl | (simp; done) | (simp [*]; done)), H', ⟨by have := HJ5.out; have := HK2.out; have := HK3.out; have := HK4.out; omega⟩, ⟨by repeat (first | (with_reducible first | exact HB.out | apply below_alloc | apply pw_below_drewN | apply below_drew1) | exact HB.out)⟩⟩
                  · rw [if_neg c19] at H
                    have c19b0 : decide (x15_3 < 4) = false := decide_eq_false c19
                    clear c19
                    replace H := Option.bind_eq_some_iff.mp H
                    obtain ⟨⟨t594, t595⟩, A280, H⟩ := H
                    replace H : ((search_At.f k3 l0 l1 a2 0 a3).bind fun bt598 => (if t585 = true then (if x10_2 = (wrap64 (4 * x14_3)) then (if t595 = 0 then (if bt598.2.2.2.2.2 = 0 then (if (t594.length : Int) = 65 then (if 0 ≤ (wrap64 (a2 + 32)) then (if (wrap64 (a2 + 32)) < (t594.length : Int) then (some (bt598.2.2.1 == ((rd_T64 t594 (wrap64 (a2 + 32))).f0) && (bt598.2.2.2.1 == 0))) else (none)) else (none)) else (some false)) else (some false)) else (some false)) else (some false)) else (some false))) = some r := H
                    have A28 := Aside0.mk A280
                    clear A280
                    replace H := Option.bind_eq_some_iff.mp H
                    obtain ⟨⟨t598, t599, t600, t601, t602, t603⟩, A290, H⟩ := H
                    replace H : (if t585 = true then (if x10_2 = (wrap64 (4 * x14_3)) then (if t595 = 0 then (if t603 = 0 then (if (t594.length : Int) = 65 then (if 0 ≤ (wrap64 (a2 + 32)) then (if (wrap64 (a2 + 32)) < (t594.length : Int) then (some (t600 == ((rd_T64 t594 (wrap64 (a2 + 32))).f0) && (t601 == 0))) else (none)) else (none)) else (some false)) else (some false)) else (some false)) else (some false)) else (some false)) = some r := H
                    have A29 := Aside0.mk A290
                    clear A290
                    by_cases c30 : t585 = true
                    · subst c30
                      have H1 : (if x10_2 = (wrap64 (4 * x14_3)) then (if t595 = 0 then (if t603 = 0 then (if (t594.length : Int) = 65 then (if 0 ≤ (wrap64 (a2 + 32)) then (if (wrap64 (a2 + 32)) < (t594.length : Int) then (some (t600 == ((rd_T64 t594 (wrap64 (a2 + 32))).f0) && (t601 == 0))) else (none)) else (none)) else (some false)) else (some false)) else (some false)) else (some false)) = some r := by rw [if_pos rfl] at H; exact H
                      clear H
                      have H := H1
                      clear H1
                      by_cases c31 : x10_2 = (wrap64 (4 * x14_3))
                      · rw [if_pos c31] at H
                        have c31b0 : (x10_2 == (wrap64 (4 * x14_3))) = true := beq_iff_eq.mpr c31
                        have c31b1 : (x10_2 != (wrap64 (4 * x14_3))) = false := bne_eq_false_iff_eq.mpr c31
                        clear c31
                        by_cases c32 : t595 = 0
                        · rw [if_pos c32] at H
                          have c32b0 : (t595 == 0) = true := beq_iff_eq.mpr c32
                          have c32b1 : (t595 != 0) = false := bne_eq_false_iff_eq.mpr c32
                          clear c32
                          by_cases c33 : t603 = 0
                          · rw [if_pos c33] at H
                            have c33b0 : (t603 == 0) = true := beq_iff_eq.mpr c33
                            have c33b1 : (t603 != 0) = false := bne_eq_false_iff_eq.mpr c33
                            clear c33
                            by_cases c34 : (t594.length : Int) = 65
                            · rw [if_pos c34] at H
                              have c34b0 : ((t594.length : Int) == 65) = true := beq_iff_eq.mpr c34
                              have c34b1 : ((t594.length : Int) != 65) = false := bne_eq_false_iff_eq.mpr c34
                              clear c34
                              obtain ⟨ji35, hji35⟩ : ∃ j_ : Int, (wrap64 (a2 + 32)) = j_ := ⟨_, rfl⟩
                              replace H : (if 0 ≤ (ji35) then (if (ji35) < (t594.length : Int) then (some (t600 == ((rd_T64 t594 (ji35)).f0) && (t601 == 0))) else (none)) else (none)) = some r := by first | (rw [hji35] at H; exact H) | (simp only [hji35] at H ⊢; exact H)
                              (try rw [hji35] at A28)
                              (try rw [hji35] at A29)
                              have hji35w : (IntKind.i64.wrap (a2 + 32)) = ji35 := (i64_w _).trans hji35
                              by_cases c36 : 0 ≤ (ji35)
                              · rw [if_pos c36] at H
                                have c36b0 : decide (0 ≤ (ji35)) = true := decide_eq_true c36
                                clear c36
                                by_cases c37 : (ji35) < (t594.length : Int)
                                · rw [if_pos c37] at H
                                  have c37b0 : decide ((ji35) < (t594.length : Int)) = true := decide_eq_true c37
                                  clear c37
                                  obtain rfl := Option.some.inj H
                                  go_wp2_with (first | (go_at_call 28; (with_reducible refine (lag_Of.calls k3 _ _ l0 _ _ l1 32 t594 t595 _ ?side1 ?side2 ?side3 ?side4 A28.out).mono ?_); (case side1 => repeat (first | exact (Kd.C_below HR0.out HB.out) | (with_reducible refine Kd.C_alloc ?_ _) | (with_reducible refine Kd.C_drewN ?_ _) | (with_reducible refine Kd.C_drew ?_))); (case side2 => exact HC0.out); (case side3 => repeat (first | exact (Kd.C_below HR1.out HB.out) | (with_reducible refine Kd.C_alloc ?_ _) | (with_reducible refine Kd.C_drewN ?_ _) | (with_reducible refine Kd.C_drew ?_))); (case side4 => exact HC1.out); rintro e w38 ⟨v596, rfl, ho0, hb⟩; have n0_ := Aside0.mk (Kd.R_lower ho0 (below_size (by repeat (first | (with_reducible first | exact HB.out | apply below_alloc | apply pw_below_drewN | apply below_drew1) | exact HB.out)))); have n1_ := Aside0.mk (below_step (by repeat (first | (with_reducible first | exact HB.out | apply below_alloc | apply pw_below_drewN | apply below_drew1) | exact HB.out)) hb); clear HB; have HO597 := n0_; have HB := n1_; clear n0_ n1_; (try clear hb); (try clear hb2); (try clear hk); (try clear hi); (try clear ho0)) | (go_at_call 13; (with_reducible refine (search_At.calls k3 _ _ l0 _ _ l1 a2 0 a3 t598 t599 t600 t601 t602 t603 _ ?side1 ?side2 ?side3 ?side4 A29.out).mono ?_); (case side1 => repeat (first | exact (Kd.C_below HR0.out HB.out) | (with_reducible refine Kd.C_alloc ?_ _) | (with_reducible refine Kd.C_drewN ?_ _) | (with_reducible refine Kd.C_drew ?_))); (case side2 => exact HC0.out); (case side3 => repeat (first | exact (Kd.C_below HR1.out HB.out) | (with_reducible refine Kd.C_alloc ?_ _) | (with_reducible refine Kd.C_drewN ?_ _) | (with_reducible refine Kd.C_drew ?_))); (case side4 => exact HC1.out); rintro e w39 ⟨rfl, hb⟩; have n0_ := Aside0.mk (Kd.R_below (by (with_reducible repeat (first | apply Kd.R_alloc | apply Kd.R_drewN | apply Kd.R_drew)); exact HO597.out) hb); have n1_ := Aside0.mk (below_step (by repeat (first | (with_reducible first | exact HB.out | apply below_alloc | apply pw_below_drewN | apply below_drew1) | exact HB.out)) hb); clear HO597; clear HB; have HO597 := n0_; have HB := n1_; clear n0_ n1_; (try clear hb); (try clear hb2); (try clear hk); (try clear hi)) | ((with_reducible refine gate_dst (N := 20) rfl ?_); (try (refine gate_guard (by rfl) ?_; dsimp only)); refine box_event ?hg (N := 20) ?hd (cs := #[.int .i64 0, .int .i64 0, .int .i64 0, .int .i64 0, .int .i64 0]) (t := 32) ?hr ?_; (case hd => rfl); (case hg => rfl); (case hr => first | (go_simp; done) | (go_simp; rfl)); intro gb604 hg w40 hbox hb; have n0_ := Aside0.mk (Kd.R_below (by (with_reducible repeat (first | apply Kd.R_alloc | apply Kd.R_drewN | apply Kd.R_drew)); exact HO597.out) hb); have n1_ := Aside0.mk (below_step (by repeat (first | (with_reducible first | exact HB.out | apply below_alloc | apply pw_below_drewN | apply below_drew1) | exact HB.out)) hb); have n2_ := Aside0.mk (hbox); have n3_ := Aside0.mk ((by rw [hg]; exact (below_size (by repeat (first | (with_reducible first | exact HB.out | apply below_alloc | apply pw_below_drewN | apply below_drew1) | exact HB.out))) : w.heap.size ≤ gb604)); have n4_ := Aside0.mk ((by rw [hg]; exact (below_size (by repeat (first | (with_reducible first | exact HB.out | apply below_alloc | apply pw_below_drewN | apply below_drew1) | exact HB.out))) : w.heap.size ≤ gb604)); clear HO597; clear HB; have HO597 := n0_; have HB := n1_; have BK604 := n2_; have GW604 := n3_; have GE604 := n4_; clear n0_ n1_ n2_ n3_ n4_; clear hb hbox hg; have hcz41_0 : w40.cell? ⟨gb604, 0, none⟩ = some (.int .i64 0) := (blk_cell BK604.out 0).trans rfl; have hcz41_1 : w40.cell? ⟨gb604, 1, none⟩ = some (.int .i64 0) := (blk_cell BK604.out 1).trans rfl; have hcz41_2 : w40.cell? ⟨gb604, 2, none⟩ = some (.int .i64 0) := (blk_cell BK604.out 2).trans rfl; have hcz41_3 : w40.cell? ⟨gb604, 3, none⟩ = some (.int .i64 0) := (blk_cell BK604.out 3).trans rfl; have hcz41_4 : w40.cell? ⟨gb604, 4, none⟩ = some (.int .i64 0) := (blk_cell BK604.out 4).trans rfl; have hfz41_0 := blk_frozen BK604.out 0; have hfz41_1 := blk_frozen BK604.out 1; have hfz41_2 := blk_frozen BK604.out 2; have hfz41_3 := blk_frozen BK604.out 3; have hfz41_4 := blk_frozen BK604.out 4; obtain ⟨Ao42, co42, eo42⟩ := Kd.R_slice HO597.out; subst eo42; have p605 : 0 ≤ ((ji35) : Int) := of_decide_eq_true (by first | (with_reducible assumption) | assumption); have q605 : (ji35) < (t594.length : Int) := of_decide_eq_true (by first | (with_reducible assumption) | assumption); obtain ⟨ad605, e605, hx605_0, hx605_1⟩ := at_T64 (Kd.R_reads' HO597.out).2.2 (ji35) p605 q605; cases e605; have hn605_0 : ad605.block ≠ gb604 := Kd.own_blk (Kd.R_ne HO597.out BK604.out (by decide)); have hn605_1 : ad605.block ≠ gb604 := Kd.own_blk (Kd.R_ne HO597.out BK604.out (by decide)); have hn605_2 : ad605.block ≠ gb604 := Kd.own_blk (Kd.R_ne HO597.out BK604.out (by decide)); have hn605_3 : ad605.block ≠ gb604 := Kd.own_blk (Kd.R_ne HO597.out BK604.out (by decide)); have hn605_4 : ad605.block ≠ gb604 := Kd.own_blk (Kd.R_ne HO597.out BK604.out (by decide)); replace hx605_0 := (cell_far (p := ⟨gb604, 0, none⟩) (by first | (rw [add_block]; exact hn605_0) | (show (Addr.add _ _).block ≠ _; rw [add_block]; exact hn605_0) | exact hn605_0) (.int .i64 t598)).trans hx605_0; replace hx605_1 := (cell_far (p := ⟨gb604, 0, none⟩) (by first | (rw [add_block]; exact hn605_0) | (show (Addr.add _ _).block ≠ _; rw [add_block]; exact hn605_0) | exact hn605_0) (.int .i64 t598)).trans hx605_1; replace hx605_0 := (cell_far (p := ⟨gb604, 1, none⟩) (by first | (rw [add_block]; exact hn605_1) | (show (Addr.add _ _).block ≠ _; rw [add_block]; exact hn605_1) | exact hn605_1) (.int .i64 t599)).trans hx605_0; replace hx605_1 := (cell_far (p := ⟨gb604, 1, none⟩) (by first | (rw [add_block]; exact hn605_1) | (show (Addr.add _ _).block ≠ _; rw [add_block]; exact hn605_1) | exact hn605_1) (.int .i64 t599)).trans hx605_1; replace hx605_0 := (cell_far (p := ⟨gb604, 2, none⟩) (by first | (rw [add_block]; exact hn605_2) | (show (Addr.add _ _).block ≠ _; rw [add_block]; exact hn605_2) | exact hn605_2) (.int .i64 t600)).trans hx605_0; replace hx605_1 := (cell_far (p := ⟨gb604, 2, none⟩) (by first | (rw [add_block]; exact hn605_2) | (show (Addr.add _ _).block ≠ _; rw [add_block]; exact hn605_2) | exact hn605_2) (.int .i64 t600)).trans hx605_1; replace hx605_0 := (cell_far (p := ⟨gb604, 3, none⟩) (by first | (rw [add_block]; exact hn605_3) | (show (Addr.add _ _).block ≠ _; rw [add_block]; exact hn605_3) | exact hn605_3) (.int .i64 t601)).trans hx605_0; replace hx605_1 := (cell_far (p := ⟨gb604, 3, none⟩) (by first | (rw [add_block]; exact hn605_3) | (show (Addr.add _ _).block ≠ _; rw [add_block]; exact hn605_3) | exact hn605_3) (.int .i64 t601)).trans hx605_1; replace hx605_0 := (cell_far (p := ⟨gb604, 4, none⟩) (by first | (rw [add_block]; exact hn605_4) | (show (Addr.add _ _).block ≠ _; rw [add_block]; exact hn605_4) | exact hn605_4) (.int .i64 t602)).trans hx605_0; replace hx605_1 := (cell_far (p := ⟨gb604, 4, none⟩) (by first | (rw [add_block]; exact hn605_4) | (show (Addr.add _ _).block ≠ _; rw [add_block]; exact hn605_4) | exact hn605_4) (.int .i64 t602)).trans hx605_1; (try have hy605_0 := fun (n_ : Nat) => (show (((((((w40.drewN n_).setCell ⟨gb604, 0, none⟩ (.int .i64 t598)).setCell ⟨gb604, 1, none⟩ (.int .i64 t599)).setCell ⟨gb604, 2, none⟩ (.int .i64 t600)).setCell ⟨gb604, 3, none⟩ (.int .i64 t601)).setCell ⟨gb604, 4, none⟩ (.int .i64 t602))).cell? _ = some _ from hx605_0)); (try have hy605_1 := fun (n_ : Nat) => (show (((((((w40.drewN n_).setCell ⟨gb604, 0, none⟩ (.int .i64 t598)).setCell ⟨gb604, 1, none⟩ (.int .i64 t599)).setCell ⟨gb604, 2, none⟩ (.int .i64 t600)).setCell ⟨gb604, 3, none⟩ (.int .i64 t601)).setCell ⟨gb604, 4, none⟩ (.int .i64 t602))).cell? _ = some _ from hx605_1)); clear hn605_0; clear hn605_1; clear hn605_2; clear hn605_3; clear hn605_4; replace p605 := eq_true p605; replace q605 := eq_true q605))
                                  repeat (go_quiet (first | (go_at_call 28; (with_reducible refine (lag_Of.calls k3 _ _ l0 _ _ l1 32 t594 t595 _ ?side1 ?side2 ?side3 ?side4 A28.out).mono ?_); (case side1 => repeat (first | exact (Kd.C_below HR0.out HB.out) | (with_reducible refine Kd.C_alloc ?_ _) | (with_reducible refine Kd.C_drewN ?_ _) | (with_reducible refine Kd.C_drew ?_))); (case side2 => exact HC0.out); (case side3 => repeat (first | exact (Kd.C_below HR1.out HB.out) | (with_reducible refine Kd.C_alloc ?_ _) | (with_reducible refine Kd.C_drewN ?_ _) | (with_reducible refine Kd.C_drew ?_))); (case side4 => exact HC1.out); rintro e w38 ⟨v596, rfl, ho0, hb⟩; have n0_ := Aside0.mk (Kd.R_lower ho0 (below_size (by repeat (first | (with_reducible first | exact HB.out | apply below_alloc | apply pw_below_drewN | apply below_drew1) | exact HB.out)))); have n1_ := Aside0.mk (below_step (by repeat (first | (with_reducible first | exact HB.out | apply below_alloc | apply pw_below_drewN | apply below_drew1) | exact HB.out)) hb); clear HB; have HO597 := n0_; have HB := n1_; clear n0_ n1_; (try clear hb); (try clear hb2); (try clear hk); (try clear hi); (try clear ho0)) | (go_at_call 13; (with_reducible refine (search_At.calls k3 _ _ l0 _ _ l1 a2 0 a3 t598 t599 t600 t601 t602 t603 _ ?side1 ?side2 ?side3 ?side4 A29.out).mono ?_); (case side1 => repeat (first | exact (Kd.C_below HR0.out HB.out) | (with_reducible refine Kd.C_alloc ?_ _) | (with_reducible refine Kd.C_drewN ?_ _) | (with_reducible refine Kd.C_drew ?_))); (case side2 => exact HC0.out); (case side3 => repeat (first | exact (Kd.C_below HR1.out HB.out) | (with_reducible refine Kd.C_alloc ?_ _) | (with_reducible refine Kd.C_drewN ?_ _) | (with_reducible refine Kd.C_drew ?_))); (case side4 => exact HC1.out); rintro e w39 ⟨rfl, hb⟩; have n0_ := Aside0.mk (Kd.R_below (by (with_reducible repeat (first | apply Kd.R_alloc | apply Kd.R_drewN | apply Kd.R_drew)); exact HO597.out) hb); have n1_ := Aside0.mk (below_step (by repeat (first | (with_reducible first | exact HB.out | apply below_alloc | apply pw_below_drewN | apply below_drew1) | exact HB.out)) hb); clear HO597; clear HB; have HO597 := n0_; have HB := n1_; clear n0_ n1_; (try clear hb); (try clear hb2); (try clear hk); (try clear hi)) | ((with_reducible refine gate_dst (N := 20) rfl ?_); (try (refine gate_guard (by rfl) ?_; dsimp only)); refine box_event ?hg (N := 20) ?hd (cs := #[.int .i64 0, .int .i64 0, .int .i64 0, .int .i64 0, .int .i64 0]) (t := 32) ?hr ?_; (case hd => rfl); (case hg => rfl); (case hr => first | (go_simp; done) | (go_simp; rfl)); intro gb604 hg w40 hbox hb; have n0_ := Aside0.mk (Kd.R_below (by (with_reducible repeat (first | apply Kd.R_alloc | apply Kd.R_drewN | apply Kd.R_drew)); exact HO597.out) hb); have n1_ := Aside0.mk (below_step (by repeat (first | (with_reducible first | exact HB.out | apply below_alloc | apply pw_below_drewN | apply below_drew1) | exact HB.out)) hb); have n2_ := Aside0.mk (hbox); have n3_ := Aside0.mk ((by rw [hg]; exact (below_size (by repeat (first | (with_reducible first | exact HB.out | apply below_alloc | apply pw_below_drewN | apply below_drew1) | exact HB.out))) : w.heap.size ≤ gb604)); have n4_ := Aside0.mk ((by rw [hg]; exact (below_size (by repeat (first | (with_reducible first | exact HB.out | apply below_alloc | apply pw_below_drewN | apply below_drew1) | exact HB.out))) : w.heap.size ≤ gb604)); clear HO597; clear HB; have HO597 := n0_; have HB := n1_; have BK604 := n2_; have GW604 := n3_; have GE604 := n4_; clear n0_ n1_ n2_ n3_ n4_; clear hb hbox hg; have hcz41_0 : w40.cell? ⟨gb604, 0, none⟩ = some (.int .i64 0) := (blk_cell BK604.out 0).trans rfl; have hcz41_1 : w40.cell? ⟨gb604, 1, none⟩ = some (.int .i64 0) := (blk_cell BK604.out 1).trans rfl; have hcz41_2 : w40.cell? ⟨gb604, 2, none⟩ = some (.int .i64 0) := (blk_cell BK604.out 2).trans rfl; have hcz41_3 : w40.cell? ⟨gb604, 3, none⟩ = some (.int .i64 0) := (blk_cell BK604.out 3).trans rfl; have hcz41_4 : w40.cell? ⟨gb604, 4, none⟩ = some (.int .i64 0) := (blk_cell BK604.out 4).trans rfl; have hfz41_0 := blk_frozen BK604.out 0; have hfz41_1 := blk_frozen BK604.out 1; have hfz41_2 := blk_frozen BK604.out 2; have hfz41_3 := blk_frozen BK604.out 3; have hfz41_4 := blk_frozen BK604.out 4; obtain ⟨Ao42, co42, eo42⟩ := Kd.R_slice HO597.out; subst eo42; have p605 : 0 ≤ ((ji35) : Int) := of_decide_eq_true (by first | (with_reducible assumption) | assumption); have q605 : (ji35) < (t594.length : Int) := of_decide_eq_true (by first | (with_reducible assumption) | assumption); obtain ⟨ad605, e605, hx605_0, hx605_1⟩ := at_T64 (Kd.R_reads' HO597.out).2.2 (ji35) p605 q605; cases e605; have hn605_0 : ad605.block ≠ gb604 := Kd.own_blk (Kd.R_ne HO597.out BK604.out (by decide)); have hn605_1 : ad605.block ≠ gb604 := Kd.own_blk (Kd.R_ne HO597.out BK604.out (by decide)); have hn605_2 : ad605.block ≠ gb604 := Kd.own_blk (Kd.R_ne HO597.out BK604.out (by decide)); have hn605_3 : ad605.block ≠ gb604 := Kd.own_blk (Kd.R_ne HO597.out BK604.out (by decide)); have hn605_4 : ad605.block ≠ gb604 := Kd.own_blk (Kd.R_ne HO597.out BK604.out (by decide)); replace hx605_0 := (cell_far (p := ⟨gb604, 0, none⟩) (by first | (rw [add_block]; exact hn605_0) | (show (Addr.add _ _).block ≠ _; rw [add_block]; exact hn605_0) | exact hn605_0) (.int .i64 t598)).trans hx605_0; replace hx605_1 := (cell_far (p := ⟨gb604, 0, none⟩) (by first | (rw [add_block]; exact hn605_0) | (show (Addr.add _ _).block ≠ _; rw [add_block]; exact hn605_0) | exact hn605_0) (.int .i64 t598)).trans hx605_1; replace hx605_0 := (cell_far (p := ⟨gb604, 1, none⟩) (by first | (rw [add_block]; exact hn605_1) | (show (Addr.add _ _).block ≠ _; rw [add_block]; exact hn605_1) | exact hn605_1) (.int .i64 t599)).trans hx605_0; replace hx605_1 := (cell_far (p := ⟨gb604, 1, none⟩) (by first | (rw [add_block]; exact hn605_1) | (show (Addr.add _ _).block ≠ _; rw [add_block]; exact hn605_1) | exact hn605_1) (.int .i64 t599)).trans hx605_1; replace hx605_0 := (cell_far (p := ⟨gb604, 2, none⟩) (by first | (rw [add_block]; exact hn605_2) | (show (Addr.add _ _).block ≠ _; rw [add_block]; exact hn605_2) | exact hn605_2) (.int .i64 t600)).trans hx605_0; replace hx605_1 := (cell_far (p := ⟨gb604, 2, none⟩) (by first | (rw [add_block]; exact hn605_2) | (show (Addr.add _ _).block ≠ _; rw [add_block]; exact hn605_2) | exact hn605_2) (.int .i64 t600)).trans hx605_1; replace hx605_0 := (cell_far (p := ⟨gb604, 3, none⟩) (by first | (rw [add_block]; exact hn605_3) | (show (Addr.add _ _).block ≠ _; rw [add_block]; exact hn605_3) | exact hn605_3) (.int .i64 t601)).trans hx605_0; replace hx605_1 := (cell_far (p := ⟨gb604, 3, none⟩) (by first | (rw [add_block]; exact hn605_3) | (show (Addr.add _ _).block ≠ _; rw [add_block]; exact hn605_3) | exact hn605_3) (.int .i64 t601)).trans hx605_1; replace hx605_0 := (cell_far (p := ⟨gb604, 4, none⟩) (by first | (rw [add_block]; exact hn605_4) | (show (Addr.add _ _).block ≠ _; rw [add_block]; exact hn605_4) | exact hn605_4) (.int .i64 t602)).trans hx605_0; replace hx605_1 := (cell_far (p := ⟨gb604, 4, none⟩) (by first | (rw [add_block]; exact hn605_4) | (show (Addr.add _ _).block ≠ _; rw [add_block]; exact hn605_4) | exact hn605_4) (.int .i64 t602)).trans hx605_1; (try have hy605_0 := fun (n_ : Nat) => (show (((((((w40.drewN n_).setCell ⟨gb604, 0, none⟩ (.int .i64 t598)).setCell ⟨gb604, 1, none⟩ (.int .i64 t599)).setCell ⟨gb604, 2, none⟩ (.int .i64 t600)).setCell ⟨gb604, 3, none⟩ (.int .i64 t601)).setCell ⟨gb604, 4, none⟩ (.int .i64 t602))).cell? _ = some _ from hx605_0)); (try have hy605_1 := fun (n_ : Nat) => (show (((((((w40.drewN n_).setCell ⟨gb604, 0, none⟩ (.int .i64 t598)).setCell ⟨gb604, 1, none⟩ (.int .i64 t599)).setCell ⟨gb604, 2, none⟩ (.int .i64 t600)).setCell ⟨gb604, 3, none⟩ (.int .i64 t601)).setCell ⟨gb604, 4, none⟩ (.int .i64 t602))).cell? _ = some _ from hx605_1)); clear hn605_0; clear hn605_1; clear hn605_2; clear hn605_3; clear hn605_4; replace p605 := eq_true p605; replace q605 := eq_true q605)); try go_wp2_with (first | (go_at_call 28; (with_reducible refine (lag_Of.calls k3 _ _ l0 _ _ l1 32 t594 t595 _ ?side1 ?side2 ?side3 ?side4 A28.out).mono ?_); (case side1 => repeat (first | exact (Kd.C_below HR0.out HB.out) | (with_reducible refine Kd.C_alloc ?_ _) | (with_reducible refine Kd.C_drewN ?_ _) | (with_reducible refine Kd.C_drew ?_))); (case side2 => exact HC0.out); (case side3 => repeat (first | exact (Kd.C_below HR1.out HB.out) | (with_reducible refine Kd.C_alloc ?_ _) | (with_reducible refine Kd.C_drewN ?_ _) | (with_reducible refine Kd.C_drew ?_))); (case side4 => exact HC1.out); rintro e w38 ⟨v596, rfl, ho0, hb⟩; have n0_ := Aside0.mk (Kd.R_lower ho0 (below_size (by repeat (first | (with_reducible first | exact HB.out | apply below_alloc | apply pw_below_drewN | apply below_drew1) | exact HB.out)))); have n1_ := Aside0.mk (below_step (by repeat (first | (with_reducible first | exact HB.out | apply below_alloc | apply pw_below_drewN | apply below_drew1) | exact HB.out)) hb); clear HB; have HO597 := n0_; have HB := n1_; clear n0_ n1_; (try clear hb); (try clear hb2); (try clear hk); (try clear hi); (try clear ho0)) | (go_at_call 13; (with_reducible refine (search_At.calls k3 _ _ l0 _ _ l1 a2 0 a3 t598 t599 t600 t601 t602 t603 _ ?side1 ?side2 ?side3 ?side4 A29.out).mono ?_); (case side1 => repeat (first | exact (Kd.C_below HR0.out HB.out) | (with_reducible refine Kd.C_alloc ?_ _) | (with_reducible refine Kd.C_drewN ?_ _) | (with_reducible refine Kd.C_drew ?_))); (case side2 => exact HC0.out); (case side3 => repeat (first | exact (Kd.C_below HR1.out HB.out) | (with_reducible refine Kd.C_alloc ?_ _) | (with_reducible refine Kd.C_drewN ?_ _) | (with_reducible refine Kd.C_drew ?_))); (case side4 => exact HC1.out); rintro e w39 ⟨rfl, hb⟩; have n0_ := Aside0.mk (Kd.R_below (by (with_reducible repeat (first | apply Kd.R_alloc | apply Kd.R_drewN | apply Kd.R_drew)); exact HO597.out) hb); have n1_ := Aside0.mk (below_step (by repeat (first | (with_reducible first | exact HB.out | apply below_alloc | apply pw_below_drewN | apply below_drew1) | exact HB.out)) hb); clear HO597; clear HB; have HO597 := n0_; have HB := n1_; clear n0_ n1_; (try clear hb); (try clear hb2); (try clear hk); (try clear hi)) | ((with_reducible refine gate_dst (N := 20) rfl ?_); (try (refine gate_guard (by rfl) ?_; dsimp only)); refine box_event ?hg (N := 20) ?hd (cs := #[.int .i64 0, .int .i64 0, .int .i64 0, .int .i64 0, .int .i64 0]) (t := 32) ?hr ?_; (case hd => rfl); (case hg => rfl); (case hr => first | (go_simp; done) | (go_simp; rfl)); intro gb604 hg w40 hbox hb; have n0_ := Aside0.mk (Kd.R_below (by (with_reducible repeat (first | apply Kd.R_alloc | apply Kd.R_drewN | apply Kd.R_drew)); exact HO597.out) hb); have n1_ := Aside0.mk (below_step (by repeat (first | (with_reducible first | exact HB.out | apply below_alloc | apply pw_below_drewN | apply below_drew1) | exact HB.out)) hb); have n2_ := Aside0.mk (hbox); have n3_ := Aside0.mk ((by rw [hg]; exact (below_size (by repeat (first | (with_reducible first | exact HB.out | apply below_alloc | apply pw_below_drewN | apply below_drew1) | exact HB.out))) : w.heap.size ≤ gb604)); have n4_ := Aside0.mk ((by rw [hg]; exact (below_size (by repeat (first | (with_reducible first | exact HB.out | apply below_alloc | apply pw_below_drewN | apply below_drew1) | exact HB.out))) : w.heap.size ≤ gb604)); clear HO597; clear HB; have HO597 := n0_; have HB := n1_; have BK604 := n2_; have GW604 := n3_; have GE604 := n4_; clear n0_ n1_ n2_ n3_ n4_; clear hb hbox hg; have hcz41_0 : w40.cell? ⟨gb604, 0, none⟩ = some (.int .i64 0) := (blk_cell BK604.out 0).trans rfl; have hcz41_1 : w40.cell? ⟨gb604, 1, none⟩ = some (.int .i64 0) := (blk_cell BK604.out 1).trans rfl; have hcz41_2 : w40.cell? ⟨gb604, 2, none⟩ = some (.int .i64 0) := (blk_cell BK604.out 2).trans rfl; have hcz41_3 : w40.cell? ⟨gb604, 3, none⟩ = some (.int .i64 0) := (blk_cell BK604.out 3).trans rfl; have hcz41_4 : w40.cell? ⟨gb604, 4, none⟩ = some (.int .i64 0) := (blk_cell BK604.out 4).trans rfl; have hfz41_0 := blk_frozen BK604.out 0; have hfz41_1 := blk_frozen BK604.out 1; have hfz41_2 := blk_frozen BK604.out 2; have hfz41_3 := blk_frozen BK604.out 3; have hfz41_4 := blk_frozen BK604.out 4; obtain ⟨Ao42, co42, eo42⟩ := Kd.R_slice HO597.out; subst eo42; have p605 : 0 ≤ ((ji35) : Int) := of_decide_eq_true (by first | (with_reducible assumption) | assumption); have q605 : (ji35) < (t594.length : Int) := of_decide_eq_true (by first | (with_reducible assumption) | assumption); obtain ⟨ad605, e605, hx605_0, hx605_1⟩ := at_T64 (Kd.R_reads' HO597.out).2.2 (ji35) p605 q605; cases e605; have hn605_0 : ad605.block ≠ gb604 := Kd.own_blk (Kd.R_ne HO597.out BK604.out (by decide)); have hn605_1 : ad605.block ≠ gb604 := Kd.own_blk (Kd.R_ne HO597.out BK604.out (by decide)); have hn605_2 : ad605.block ≠ gb604 := Kd.own_blk (Kd.R_ne HO597.out BK604.out (by decide)); have hn605_3 : ad605.block ≠ gb604 := Kd.own_blk (Kd.R_ne HO597.out BK604.out (by decide)); have hn605_4 : ad605.block ≠ gb604 := Kd.own_blk (Kd.R_ne HO597.out BK604.out (by decide)); replace hx605_0 := (cell_far (p := ⟨gb604, 0, none⟩) (by first | (rw [add_block]; exact hn605_0) | (show (Addr.add _ _).block ≠ _; rw [add_block]; exact hn605_0) | exact hn605_0) (.int .i64 t598)).trans hx605_0; replace hx605_1 := (cell_far (p := ⟨gb604, 0, none⟩) (by first | (rw [add_block]; exact hn605_0) | (show (Addr.add _ _).block ≠ _; rw [add_block]; exact hn605_0) | exact hn605_0) (.int .i64 t598)).trans hx605_1; replace hx605_0 := (cell_far (p := ⟨gb604, 1, none⟩) (by first | (rw [add_block]; exact hn605_1) | (show (Addr.add _ _).block ≠ _; rw [add_block]; exact hn605_1) | exact hn605_1) (.int .i64 t599)).trans hx605_0; replace hx605_1 := (cell_far (p := ⟨gb604, 1, none⟩) (by first | (rw [add_block]; exact hn605_1) | (show (Addr.add _ _).block ≠ _; rw [add_block]; exact hn605_1) | exact hn605_1) (.int .i64 t599)).trans hx605_1; replace hx605_0 := (cell_far (p := ⟨gb604, 2, none⟩) (by first | (rw [add_block]; exact hn605_2) | (show (Addr.add _ _).block ≠ _; rw [add_block]; exact hn605_2) | exact hn605_2) (.int .i64 t600)).trans hx605_0; replace hx605_1 := (cell_far (p := ⟨gb604, 2, none⟩) (by first | (rw [add_block]; exact hn605_2) | (show (Addr.add _ _).block ≠ _; rw [add_block]; exact hn605_2) | exact hn605_2) (.int .i64 t600)).trans hx605_1; replace hx605_0 := (cell_far (p := ⟨gb604, 3, none⟩) (by first | (rw [add_block]; exact hn605_3) | (show (Addr.add _ _).block ≠ _; rw [add_block]; exact hn605_3) | exact hn605_3) (.int .i64 t601)).trans hx605_0; replace hx605_1 := (cell_far (p := ⟨gb604, 3, none⟩) (by first | (rw [add_block]; exact hn605_3) | (show (Addr.add _ _).block ≠ _; rw [add_block]; exact hn605_3) | exact hn605_3) (.int .i64 t601)).trans hx605_1; replace hx605_0 := (cell_far (p := ⟨gb604, 4, none⟩) (by first | (rw [add_block]; exact hn605_4) | (show (Addr.add _ _).block ≠ _; rw [add_block]; exact hn605_4) | exact hn605_4) (.int .i64 t602)).trans hx605_0; replace hx605_1 := (cell_far (p := ⟨gb604, 4, none⟩) (by first | (rw [add_block]; exact hn605_4) | (show (Addr.add _ _).block ≠ _; rw [add_block]; exact hn605_4) | exact hn605_4) (.int .i64 t602)).trans hx605_1; (try have hy605_0 := fun (n_ : Nat) => (show (((((((w40.drewN n_).setCell ⟨gb604, 0, none⟩ (.int .i64 t598)).setCell ⟨gb604, 1, none⟩ (.int .i64 t599)).setCell ⟨gb604, 2, none⟩ (.int .i64 t600)).setCell ⟨gb604, 3, none⟩ (.int .i64 t601)).setCell ⟨gb604, 4, none⟩ (.int .i64 t602))).cell? _ = some _ from hx605_0)); (try have hy605_1 := fun (n_ : Nat) => (show (((((((w40.drewN n_).setCell ⟨gb604, 0, none⟩ (.int .i64 t598)).setCell ⟨gb604, 1, none⟩ (.int .i64 t599)).setCell ⟨gb604, 2, none⟩ (.int .i64 t600)).setCell ⟨gb604, 3, none⟩ (.int .i64 t601)).setCell ⟨gb604, 4, none⟩ (.int .i64 t602))).cell? _ = some _ from hx605_1)); clear hn605_0; clear hn605_1; clear hn605_2; clear hn605_3; clear hn605_4; replace p605 := eq_true p605; replace q605 := eq_true q605)))
                                  go_ret
                                  exact ⟨by first | rfl | (simp [errW_none, errW_some] <;> rfl) | (simp only [← hji35]; first | rfl | (simp [errW_none, errW_some] <;> rfl)) | (simp [*, errW_none, errW_some] <;> rfl), by repeat (first | (with_reducible first | exact HB.out | apply below_alloc | apply pw_below_drewN | apply below_drew1 | refine below_set ?_ GE604.out) | exact HB.out)⟩
                                · rw [if_neg c37] at H
                                  exact absurd H (by simp)
                              · rw [if_neg c36] at H
                                exact absurd H (by simp)
                            · rw [if_neg c34] at H
                              have c34b0 : ((t594.length : Int) == 65) = false := beq_eq_false_iff_ne.mpr c34
                              have c34b1 : ((t594.length : Int) != 65) = true := bne_iff_ne.mpr c34
                              exact absurd ((Option.some.inj H).trans HRT.out) (by decide)
                          · rw [if_neg c33] at H
                            have c33b0 : (t603 == 0) = false := beq_eq_false_iff_ne.mpr c33
                            have c33b1 : (t603 != 0) = true := bne_iff_ne.mpr c33
                            exact absurd ((Option.some.inj H).trans HRT.out) (by decide)
                        · rw [if_neg c32] at H
                          have c32b0 : (t595 == 0) = false := beq_eq_false_iff_ne.mpr c32
                          have c32b1 : (t595 != 0) = true := bne_iff_ne.mpr c32
                          exact absurd ((Option.some.inj H).trans HRT.out) (by decide)
                      · rw [if_neg c31] at H
                        have c31b0 : (x10_2 == (wrap64 (4 * x14_3))) = false := beq_eq_false_iff_ne.mpr c31
                        have c31b1 : (x10_2 != (wrap64 (4 * x14_3))) = true := bne_iff_ne.mpr c31
                        exact absurd ((Option.some.inj H).trans HRT.out) (by decide)
                    · replace c30 := Bool.eq_false_iff.mpr c30
                      subst c30
                      have H1 : (some false) = some r := by rw [if_neg (show ¬ (false = true) by decide)] at H; exact H
                      clear H
                      have H := H1
                      clear H1
                      exact absurd ((Option.some.inj H).trans HRT.out) (by decide)

/-- THE ONE PURE STATEMENT of fringelaw20_SearchPowers: yours. -/
def fringelaw20_SearchPowers.Pure : Prop := ∀ (l0 : List Int) (l1 : List Int) (a2 : Int) (a3 : Int), l0.length ≤ maxLen → l0.length * 8 ≤ 140737488351232 → (∀ x ∈ l0, (Lit.int .i64 x).wf = true) → l1.length ≤ maxLen → l1.length * 8 ≤ 140737488351232 → (∀ x ∈ l1, (Lit.int .i64 x).wf = true) → (Lit.int .i64 a2).wf = true → (Lit.int .i64 a3).wf = true → ∃ k, fringelaw20_SearchPowers.f k l0 l1 a2 a3 = some true
theorem fringelaw20_SearchPowers.walk (P : fringelaw20_SearchPowers.Pure) (a0 : Option Addr) (len0 cap0 : Nat) (z0 : List Int) (a1 : Option Addr) (len1 cap1 : Nat) (z1 : List Int) (a2 : Int) (a3 : Int) (w : World) (w0 : (a0 = none ∧ len0 = 0 ∧ cap0 = 0 ∧ z0 = []) ∨ ∃ x, a0 = some x ∧ len0 ≤ cap0 ∧ cap0 ≤ maxLen ∧ z0.length = cap0 ∧ (∀ i, i < z0.length → w.cell? (x.add i) = some (.int .i64 (z0.getD i 0))) ∧ ∀ n ∈ z0, (Lit.int .i64 n).wf = true) (y0 : len0 * 8 ≤ 140737488351232) (w1 : (a1 = none ∧ len1 = 0 ∧ cap1 = 0 ∧ z1 = []) ∨ ∃ x, a1 = some x ∧ len1 ≤ cap1 ∧ cap1 ≤ maxLen ∧ z1.length = cap1 ∧ (∀ i, i < z1.length → w.cell? (x.add i) = some (.int .i64 (z1.getD i 0))) ∧ ∀ n ∈ z1, (Lit.int .i64 n).wf = true) (y1 : len1 * 8 ≤ 140737488351232) (w2 : (Lit.int .i64 a2).wf = true) (w3 : (Lit.int .i64 a3).wf = true) :
    Calls Try.prog 9 #[.slice a0 len0 cap0, .slice a1 len1 cap1, .int .i64 a2, .int .i64 a3] w fun e w' => e = .returned (.bool true) ∧ Below w.heap.size w w' := by
  obtain ⟨l0, rfl, hr0, hm0, hw0, hc0⟩ := ReadsInt.ofRowC w0
  obtain ⟨l1, rfl, hr1, hm1, hw1, hc1⟩ := ReadsInt.ofRowC w1
  obtain ⟨k, h⟩ := P l0 l1 a2 a3 hm0 y0 hw0 hm1 y1 hw1 w2 w3
  refine (fringelaw20_SearchPowers.calls k _ _ l0 _ _ l1 a2 a3 true w (Kd.C_of_reads (d := (0 : Int)) (h1 := fun _ => rfl) hr0) hc0 (Kd.C_of_reads (d := (0 : Int)) (h1 := fun _ => rfl) hr1) hc1 rfl h).mono ?_
  rintro e w' ⟨rfl, hd⟩
  exact ⟨rfl, hd⟩

end Go.Proofs.Ytpooejjgaobcaaa.PAll
