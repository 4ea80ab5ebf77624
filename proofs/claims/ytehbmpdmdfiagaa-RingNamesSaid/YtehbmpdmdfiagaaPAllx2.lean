-- Written by a program of this session, after the kit's print
import Derived.Test.YtehbmpdmdfiagaaPAllx0
import Derived.Test.YtehbmpdmdfiagaaPAllx1
namespace Go.Proofs.Ytehbmpdmdfiagaa.PAll
open Go.RowKit Go.Proofs.YtehbmpdmdfiagaaW.PrintWords Go.Proofs.YtehbmpdmdfiagaaW.PrintLast Go.Proofs.YtehbmpdmdfiagaaW.PrintMore
attribute [local go_sem] max2_int min2_int max_two min_two max_three min_three max_four min_four   -- for this text's walks alone
set_option linter.unusedVariables false
set_option linter.unusedSimpArgs false

/-! ### fringeref10_Power: function 27 -/
def fringeref10_Power.l0 : Nat → Int → Int → Int → Int → Option (Int)
  | 0, _, _, _, _ => none
  | k + 1, x0, x1, x2, x7 => if x2 > 0 then (if (Int.tmod x2 2) = 1 then (if x0 = 0 then (none) else (fringeref10_Power.l0 k x0 (Int.tmod (wrap64 (x1 * x1)) x0) (wrap64 (Int.tdiv x2 2)) (Int.tmod (wrap64 (x7 * x1)) x0))) else (if x0 = 0 then (none) else (fringeref10_Power.l0 k x0 (Int.tmod (wrap64 (x1 * x1)) x0) (wrap64 (Int.tdiv x2 2)) x7))) else (some x7)
def fringeref10_Power.f (k : Nat) (a0 : Int) (a1 : Int) (a2 : Int) : Option (Int) := fringeref10_Power.l0 k a0 a1 a2 1
theorem fringeref10_Power.mono_l : ∀ k, (∀ y0 y1 y2 y3, LeO (fringeref10_Power.l0 k y0 y1 y2 y3) (fringeref10_Power.l0 (k + 1) y0 y1 y2 y3))
  | 0 => fun _ _ _ _ r h => by simp [fringeref10_Power.l0] at h
  | k + 1 => by
    have ih0 := fringeref10_Power.mono_l k
    · intro y0 y1 y2 y3
      unfold fringeref10_Power.l0
      repeat' first
      | (with_reducible exact ih0 _ _ _ _)
      | (with_reducible exact LeO.refl _)
      | (with_reducible exact LeO.none _)
      | (with_reducible refine LeO.ite ?_ ?_)
      | (with_reducible refine LeO.bind ?_ (fun _ => ?_))
      | exact ih0 _ _ _ _
      | exact LeO.none _
      | refine LeO.ite ?_ ?_
      | refine LeO.bind ?_ (fun _ => ?_)
theorem fringeref10_Power.mono : ∀ a0 a1 a2 k, LeO (fringeref10_Power.f k a0 a1 a2) (fringeref10_Power.f (k + 1) a0 a1 a2) := by
  intro a0 a1 a2 k
  have ih0 := fringeref10_Power.mono_l k
  unfold fringeref10_Power.f
  repeat' first
      | (with_reducible exact ih0 _ _ _ _)
      | (with_reducible exact LeO.refl _)
      | (with_reducible exact LeO.none _)
      | (with_reducible refine LeO.ite ?_ ?_)
      | (with_reducible refine LeO.bind ?_ (fun _ => ?_))
      | exact ih0 _ _ _ _
      | exact LeO.none _
      | refine LeO.ite ?_ ?_
      | refine LeO.bind ?_ (fun _ => ?_)
set_option maxHeartbeats 8000000 in
set_option maxRecDepth 100000 in
theorem fringeref10_Power.calls (k : Nat) (a0 : Int) (a1 : Int) (a2 : Int) (r : Int) (w : World) (h : fringeref10_Power.f k a0 a1 a2 = some r) :
    Calls Try.prog 27 #[.int .i64 a0, .int .i64 a1, .int .i64 a2] w fun e w' => e = .returned (.int .i64 r) ∧ Drawn0 w w' := by
  have H : (fringeref10_Power.l0 k a0 a1 a2 1) = some r := h
  clear h
  have H' := Aside0.mk H
  clear H
  go_enter Try.func27, Try.ntmps27
  go_wp2
  go_loopg [1, 2, 7] k (fun kq v1 v2 v7 w' => ∃ (x1_1 : Int) (x2_1 : Int) (x7_1 : Int), v1 = .int .i64 x1_1 ∧ v2 = .int .i64 x2_1 ∧ v7 = .int .i64 x7_1 ∧ Aside0 (fringeref10_Power.l0 kq a0 x1_1 x2_1 x7_1 = some r) ∧ Aside0 (kq ≤ k) ∧ Drawn0 w w')
  case atStart => exact ⟨(a1), (a2), (1), (by first | rfl | (simp; done) | (simp [*]; done)), (by first | rfl | (simp; done) | (simp [*]; done)), (by first | rfl | (simp; done) | (simp [*]; done)), H', ⟨Nat.le_refl _⟩, by repeat (first | exact Drawn0.refl _ | apply Drawn0.step)⟩
  case round =>
    clear H'
    try clear c2
    try clear p2
    obtain ⟨x1_1, x2_1, x7_1, rfl, rfl, rfl, HA, HK1, ⟨m1, rfl⟩⟩ := hrel
    cases gk with
    | zero => exact absurd HA.out (by simp [fringeref10_Power.l0])
    | succ k1 =>
      have H := HA.out
      clear HA
      simp only [fringeref10_Power.l0] at H
      by_cases c4 : x2_1 > 0
      rotate_left
      · rw [if_neg c4] at H
        have c4b0 : decide (0 < x2_1) = false := decide_eq_false c4
        clear c4
        obtain rfl := Option.some.inj H
        go_wp2
        go_ret
        exact ⟨by first | rfl | (simp; done) | (simp [*]; done), by repeat (first | exact Drawn0.refl _ | apply Drawn0.step)⟩
      rw [if_pos c4] at H
      have c4b0 : decide (0 < x2_1) = true := decide_eq_true c4
      clear c4
      by_cases c5 : (Int.tmod x2_1 2) = 1
      rotate_left
      · rw [if_neg c5] at H
        have c5b0 : ((Int.tmod x2_1 2) == 1) = false := beq_eq_false_iff_ne.mpr c5
        have c5b1 : ((Int.tmod x2_1 2) != 1) = true := bne_iff_ne.mpr c5
        by_cases c7 : a0 = 0
        · rw [if_pos c7] at H
          exact absurd H (by simp)
        rw [if_neg c7] at H
        have c7b0 : (a0 == 0) = false := beq_eq_false_iff_ne.mpr c7
        have c7b1 : (a0 != 0) = true := bne_iff_ne.mpr c7
        have H' := Aside0.mk H
        clear H
        go_wp2
        go_roundg k1
        case measure => have := HK1.out; omega
        case rel => exact ⟨(Int.tmod (wrap64 (x1_1 * x1_1)) a0), (wrap64 (Int.tdiv x2_1 2)), (x7_1), (by first | rfl | (simp; done) | (simp [*]; done)), (by first | rfl | (simp; done) | (simp [*]; done)), (by first | rfl | (simp; done) | (simp [*]; done)), H', ⟨by have := HK1.out; omega⟩, by repeat (first | exact Drawn0.refl _ | apply Drawn0.step)⟩
      rw [if_pos c5] at H
      have c5b0 : ((Int.tmod x2_1 2) == 1) = true := beq_iff_eq.mpr c5
      have c5b1 : ((Int.tmod x2_1 2) != 1) = false := bne_eq_false_iff_eq.mpr c5
      clear c5
      by_cases c6 : a0 = 0
      · rw [if_pos c6] at H
        exact absurd H (by simp)
      rw [if_neg c6] at H
      have c6b0 : (a0 == 0) = false := beq_eq_false_iff_ne.mpr c6
      have c6b1 : (a0 != 0) = true := bne_iff_ne.mpr c6
      have H' := Aside0.mk H
      clear H
      go_wp2
      go_roundg k1
      case measure => have := HK1.out; omega
      case rel => exact ⟨(Int.tmod (wrap64 (x1_1 * x1_1)) a0), (wrap64 (Int.tdiv x2_1 2)), (Int.tmod (wrap64 (x7_1 * x1_1)) a0), (by first | rfl | (simp; done) | (simp [*]; done)), (by first | rfl | (simp; done) | (simp [*]; done)), (by first | rfl | (simp; done) | (simp [*]; done)), H', ⟨by have := HK1.out; omega⟩, by repeat (first | exact Drawn0.refl _ | apply Drawn0.step)⟩

/-! ### fringeref10_Pow: function 11 -/
def fringeref10_Pow.f (k : Nat) (a0 : Int) (a1 : Int) (a2 : Int) : Option (Int × Int) := (fringeref10_Both.f k a0 a1).bind fun t115 => (if t115 = 0 then (if a2 < 0 then (some (0, 2)) else ((fringeref10_Power.f k a0 a1 a2).bind fun t116 => (some (t116, 0)))) else ((fringeref10_Both.f k a0 a1).bind fun t117 => (some (0, t117))))
theorem fringeref10_Pow.mono : ∀ a0 a1 a2 k, LeO (fringeref10_Pow.f k a0 a1 a2) (fringeref10_Pow.f (k + 1) a0 a1 a2) := by
  intro a0 a1 a2 k
  unfold fringeref10_Pow.f
  repeat' first
      | (with_reducible exact fringeref10_Both.mono _ _ _)
      | (with_reducible exact fringeref10_Power.mono _ _ _ _)
      | (with_reducible exact LeO.refl _)
      | (with_reducible exact LeO.none _)
      | (with_reducible refine LeO.ite ?_ ?_)
      | (with_reducible refine LeO.bind ?_ (fun _ => ?_))
      | exact fringeref10_Both.mono _ _ _
      | exact fringeref10_Power.mono _ _ _ _
      | exact LeO.none _
      | refine LeO.ite ?_ ?_
      | refine LeO.bind ?_ (fun _ => ?_)
set_option maxHeartbeats 8000000 in
set_option maxRecDepth 100000 in
theorem fringeref10_Pow.calls (k : Nat) (a0 : Int) (a1 : Int) (a2 : Int) (r1 : Int) (r2 : Int) (w : World) (h : fringeref10_Pow.f k a0 a1 a2 = some (r1, r2)) :
    Calls Try.prog 11 #[.int .i64 a0, .int .i64 a1, .int .i64 a2] w fun e w' => e = .returned (.tuple #[.int .i64 r1, .int .i64 r2]) ∧ Below w.heap.size w w' := by
  have HB := Aside0.mk (Below.refl w.heap.size w)
  have H : ((fringeref10_Both.f k a0 a1).bind fun t115 => (if t115 = 0 then (if a2 < 0 then (some (0, 2)) else ((fringeref10_Power.f k a0 a1 a2).bind fun t116 => (some (t116, 0)))) else ((fringeref10_Both.f k a0 a1).bind fun t117 => (some (0, t117))))) = some (r1, r2) := h
  clear h
  replace H := Option.bind_eq_some_iff.mp H
  obtain ⟨t115, A40, H⟩ := H
  replace H : (if t115 = 0 then (if a2 < 0 then (some (0, 2)) else ((fringeref10_Power.f k a0 a1 a2).bind fun t116 => (some (t116, 0)))) else ((fringeref10_Both.f k a0 a1).bind fun t117 => (some (0, t117)))) = some (r1, r2) := H
  have A4 := Aside0.mk A40
  clear A40
  by_cases c5 : t115 = 0
  rotate_left
  · rw [if_neg c5] at H
    have c5b0 : (t115 == 0) = false := beq_eq_false_iff_ne.mpr c5
    have c5b1 : (t115 != 0) = true := bne_iff_ne.mpr c5
    replace H := Option.bind_eq_some_iff.mp H
    obtain ⟨t117, A100, H⟩ := H
    replace H : (some (0, t117)) = some (r1, r2) := H
    have A10 := Aside0.mk A100
    clear A100
    simp only [Option.some.injEq, Prod.mk.injEq] at H
    obtain ⟨rfl, rfl⟩ := H
    go_enter Try.func11, Try.ntmps11
    go_wp2_with (first | ((with_reducible refine gate_callee (f := 25) rfl ?_); refine goesL_ (some 10) rfl rfl Try.func25 (by kernel_rfl) rfl #[.int .i64 a0, .int .i64 a1] rfl (by (try simp only [List.map_toArray, List.map_cons, List.map_nil]); first | done | rfl | (simp only [List.length_drop, List.length_take]; rfl)) ?_; (with_reducible refine (fringeref10_Both.calls k a0 a1 t115 _ A4.out).mono ?_); rintro e w11 ⟨rfl, hb⟩; refine ⟨_, rfl, ?_⟩; have n0_ := Aside0.mk (below_step (by repeat (first | (with_reducible first | exact HB.out | apply below_alloc | apply pw_below_drewN | apply below_drew1) | exact HB.out)) hb); clear HB; have HB := n0_; clear n0_; (try clear hb); (try clear hb2); (try clear hk); (try clear hi)) | ((with_reducible refine gate_callee (f := 25) rfl ?_); refine goesL_ (some 14) rfl rfl Try.func25 (by kernel_rfl) rfl #[.int .i64 a0, .int .i64 a1] rfl (by (try simp only [List.map_toArray, List.map_cons, List.map_nil]); first | done | rfl | (simp only [List.length_drop, List.length_take]; rfl)) ?_; (with_reducible refine (fringeref10_Both.calls k a0 a1 t117 _ A10.out).mono ?_); rintro e w12 ⟨rfl, hb⟩; refine ⟨_, rfl, ?_⟩; have n0_ := Aside0.mk (below_step (by repeat (first | (with_reducible first | exact HB.out | apply below_alloc | apply pw_below_drewN | apply below_drew1) | exact HB.out)) hb); clear HB; have HB := n0_; clear n0_; (try clear hb); (try clear hb2); (try clear hk); (try clear hi)))
    go_ret2
    exact ⟨by first | rfl | (simp [errW_none, errW_some] <;> rfl) | (simp [*, errW_none, errW_some] <;> rfl), by repeat (first | (with_reducible first | exact HB.out | apply below_alloc | apply pw_below_drewN | apply below_drew1) | exact HB.out)⟩
  rw [if_pos c5] at H
  have c5b0 : (t115 == 0) = true := beq_iff_eq.mpr c5
  have c5b1 : (t115 != 0) = false := bne_eq_false_iff_eq.mpr c5
  clear c5
  by_cases c6 : a2 < 0
  · rw [if_pos c6] at H
    have c6b0 : decide (a2 < 0) = true := decide_eq_true c6
    clear c6
    simp only [Option.some.injEq, Prod.mk.injEq] at H
    obtain ⟨rfl, rfl⟩ := H
    go_enter Try.func11, Try.ntmps11
    go_wp2_with (first | ((with_reducible refine gate_callee (f := 25) rfl ?_); refine goesL_ (some 10) rfl rfl Try.func25 (by kernel_rfl) rfl #[.int .i64 a0, .int .i64 a1] rfl (by (try simp only [List.map_toArray, List.map_cons, List.map_nil]); first | done | rfl | (simp only [List.length_drop, List.length_take]; rfl)) ?_; (with_reducible refine (fringeref10_Both.calls k a0 a1 t115 _ A4.out).mono ?_); rintro e w7 ⟨rfl, hb⟩; refine ⟨_, rfl, ?_⟩; have n0_ := Aside0.mk (below_step (by repeat (first | (with_reducible first | exact HB.out | apply below_alloc | apply pw_below_drewN | apply below_drew1) | exact HB.out)) hb); clear HB; have HB := n0_; clear n0_; (try clear hb); (try clear hb2); (try clear hk); (try clear hi)))
    go_ret2
    exact ⟨by first | rfl | (simp [errW_none, errW_some] <;> rfl) | (simp [*, errW_none, errW_some] <;> rfl), by repeat (first | (with_reducible first | exact HB.out | apply below_alloc | apply pw_below_drewN | apply below_drew1) | exact HB.out)⟩
  rw [if_neg c6] at H
  have c6b0 : decide (a2 < 0) = false := decide_eq_false c6
  clear c6
  replace H := Option.bind_eq_some_iff.mp H
  obtain ⟨t116, A80, H⟩ := H
  replace H : (some (t116, 0)) = some (r1, r2) := H
  have A8 := Aside0.mk A80
  clear A80
  simp only [Option.some.injEq, Prod.mk.injEq] at H
  obtain ⟨rfl, rfl⟩ := H
  go_enter Try.func11, Try.ntmps11
  go_wp2_with (first | ((with_reducible refine gate_callee (f := 25) rfl ?_); refine goesL_ (some 10) rfl rfl Try.func25 (by kernel_rfl) rfl #[.int .i64 a0, .int .i64 a1] rfl (by (try simp only [List.map_toArray, List.map_cons, List.map_nil]); first | done | rfl | (simp only [List.length_drop, List.length_take]; rfl)) ?_; (with_reducible refine (fringeref10_Both.calls k a0 a1 t115 _ A4.out).mono ?_); rintro e w9 ⟨rfl, hb⟩; refine ⟨_, rfl, ?_⟩; have n0_ := Aside0.mk (below_step (by repeat (first | (with_reducible first | exact HB.out | apply below_alloc | apply pw_below_drewN | apply below_drew1) | exact HB.out)) hb); clear HB; have HB := n0_; clear n0_; (try clear hb); (try clear hb2); (try clear hk); (try clear hi)) | ((with_reducible refine gate_callee (f := 27) rfl ?_); refine goesL_ (some 20) rfl rfl Try.func27 (by kernel_rfl) rfl #[.int .i64 a0, .int .i64 a1, .int .i64 a2] rfl (by (try simp only [List.map_toArray, List.map_cons, List.map_nil]); first | done | rfl | (simp only [List.length_drop, List.length_take]; rfl)) ?_; (with_reducible refine (fringeref10_Power.calls k a0 a1 a2 t116 _ A8.out).mono ?_); rintro e w' ⟨rfl, ⟨nd, rfl⟩⟩; refine ⟨_, rfl, ?_⟩))
  go_ret2
  exact ⟨by first | rfl | (simp [errW_none, errW_some] <;> rfl) | (simp [*, errW_none, errW_some] <;> rfl), by repeat (first | (with_reducible first | exact HB.out | apply below_alloc | apply pw_below_drewN | apply below_drew1) | exact HB.out)⟩

/-! ### ring_Inv: function 12 -/
def ring_Inv.l0 : Nat → Int → Int → Int → Int → Int → Option (Int × Int)
  | 0, _, _, _, _, _ => none
  | k + 1, x0, x7, x8, x9, x10 => if x8 > 0 then (if x8 = 0 then (none) else (ring_Inv.l0 k x0 x8 (wrap64 (x7 - (wrap64 ((wrap64 (Int.tdiv x7 x8)) * x8)))) x10 (wrap64 (x9 - (wrap64 ((wrap64 (Int.tdiv x7 x8)) * x10)))))) else (if x0 = 0 then (none) else (some (Int.tmod (wrap64 ((Int.tmod x9 x0) + x0)) x0, 0)))
def ring_Inv.f (k : Nat) (a0 : Int) (a1 : Int) : Option (Int × Int) := (ring_both.f k a0 a1).bind fun t118 => (if t118 = 0 then (if a1 = 0 then (some (0, 18)) else (ring_Inv.l0 k a0 a1 a0 1 0)) else (some (0, t118)))
theorem ring_Inv.mono_l : ∀ k, (∀ y0 y1 y2 y3 y4, LeO (ring_Inv.l0 k y0 y1 y2 y3 y4) (ring_Inv.l0 (k + 1) y0 y1 y2 y3 y4))
  | 0 => fun _ _ _ _ _ r h => by simp [ring_Inv.l0] at h
  | k + 1 => by
    have ih0 := ring_Inv.mono_l k
    · intro y0 y1 y2 y3 y4
      unfold ring_Inv.l0
      repeat' first
      | (with_reducible exact ih0 _ _ _ _ _)
      | (with_reducible exact ring_both.mono _ _ _)
      | (with_reducible exact LeO.refl _)
      | (with_reducible exact LeO.none _)
      | (with_reducible refine LeO.ite ?_ ?_)
      | (with_reducible refine LeO.bind ?_ (fun _ => ?_))
      | exact ih0 _ _ _ _ _
      | exact ring_both.mono _ _ _
      | exact LeO.none _
      | refine LeO.ite ?_ ?_
      | refine LeO.bind ?_ (fun _ => ?_)
theorem ring_Inv.mono : ∀ a0 a1 k, LeO (ring_Inv.f k a0 a1) (ring_Inv.f (k + 1) a0 a1) := by
  intro a0 a1 k
  have ih0 := ring_Inv.mono_l k
  unfold ring_Inv.f
  repeat' first
      | (with_reducible exact ih0 _ _ _ _ _)
      | (with_reducible exact ring_both.mono _ _ _)
      | (with_reducible exact LeO.refl _)
      | (with_reducible exact LeO.none _)
      | (with_reducible refine LeO.ite ?_ ?_)
      | (with_reducible refine LeO.bind ?_ (fun _ => ?_))
      | exact ih0 _ _ _ _ _
      | exact ring_both.mono _ _ _
      | exact LeO.none _
      | refine LeO.ite ?_ ?_
      | refine LeO.bind ?_ (fun _ => ?_)
set_option maxHeartbeats 8000000 in
set_option maxRecDepth 100000 in
theorem ring_Inv.calls (k : Nat) (a0 : Int) (a1 : Int) (r1 : Int) (r2 : Int) (w : World) (h : ring_Inv.f k a0 a1 = some (r1, r2)) :
    Calls Try.prog 12 #[.int .i64 a0, .int .i64 a1] w fun e w' => e = .returned (.tuple #[.int .i64 r1, .int .i64 r2]) ∧ Drawn0 w w' := by
  have H : ((ring_both.f k a0 a1).bind fun t118 => (if t118 = 0 then (if a1 = 0 then (some (0, 18)) else (ring_Inv.l0 k a0 a1 a0 1 0)) else (some (0, t118)))) = some (r1, r2) := h
  clear h
  replace H := Option.bind_eq_some_iff.mp H
  obtain ⟨t118, A30, H⟩ := H
  replace H : (if t118 = 0 then (if a1 = 0 then (some (0, 18)) else (ring_Inv.l0 k a0 a1 a0 1 0)) else (some (0, t118))) = some (r1, r2) := H
  have A3 := Aside0.mk A30
  clear A30
  by_cases c4 : t118 = 0
  rotate_left
  · rw [if_neg c4] at H
    have c4b0 : (t118 == 0) = false := beq_eq_false_iff_ne.mpr c4
    have c4b1 : (t118 != 0) = true := bne_iff_ne.mpr c4
    simp only [Option.some.injEq, Prod.mk.injEq] at H
    obtain ⟨rfl, rfl⟩ := H
    go_enter Try.func12, Try.ntmps12
    go_wp2_with (first | ((with_reducible refine gate_callee (f := 29) rfl ?_); refine goesL_ (some 14) rfl rfl Try.func29 (by kernel_rfl) rfl #[.int .i64 a0, .int .i64 a1] rfl (by (try simp only [List.map_toArray, List.map_cons, List.map_nil]); first | done | rfl | (simp only [List.length_drop, List.length_take]; rfl)) ?_; (with_reducible refine (ring_both.calls k a0 a1 t118 _ A3.out).mono ?_); rintro e w' ⟨rfl, ⟨nd, rfl⟩⟩; refine ⟨_, rfl, ?_⟩))
    go_ret2
    exact ⟨by first | rfl | (simp; done) | (simp [*]; done), by repeat (first | exact Drawn0.refl _ | apply Drawn0.step)⟩
  rw [if_pos c4] at H
  have c4b0 : (t118 == 0) = true := beq_iff_eq.mpr c4
  have c4b1 : (t118 != 0) = false := bne_eq_false_iff_eq.mpr c4
  clear c4
  by_cases c5 : a1 = 0
  · rw [if_pos c5] at H
    have c5b0 : (a1 == 0) = true := beq_iff_eq.mpr c5
    have c5b1 : (a1 != 0) = false := bne_eq_false_iff_eq.mpr c5
    clear c5
    simp only [Option.some.injEq, Prod.mk.injEq] at H
    obtain ⟨rfl, rfl⟩ := H
    go_enter Try.func12, Try.ntmps12
    go_wp2_with (first | ((with_reducible refine gate_callee (f := 29) rfl ?_); refine goesL_ (some 14) rfl rfl Try.func29 (by kernel_rfl) rfl #[.int .i64 a0, .int .i64 a1] rfl (by (try simp only [List.map_toArray, List.map_cons, List.map_nil]); first | done | rfl | (simp only [List.length_drop, List.length_take]; rfl)) ?_; (with_reducible refine (ring_both.calls k a0 a1 t118 _ A3.out).mono ?_); rintro e w' ⟨rfl, ⟨nd, rfl⟩⟩; refine ⟨_, rfl, ?_⟩))
    go_ret2
    exact ⟨by first | rfl | (simp; done) | (simp [*]; done), by repeat (first | exact Drawn0.refl _ | apply Drawn0.step)⟩
  rw [if_neg c5] at H
  have c5b0 : (a1 == 0) = false := beq_eq_false_iff_ne.mpr c5
  have c5b1 : (a1 != 0) = true := bne_iff_ne.mpr c5
  have H' := Aside0.mk H
  clear H
  go_enter Try.func12, Try.ntmps12
  go_wp2_with (first | ((with_reducible refine gate_callee (f := 29) rfl ?_); refine goesL_ (some 14) rfl rfl Try.func29 (by kernel_rfl) rfl #[.int .i64 a0, .int .i64 a1] rfl (by (try simp only [List.map_toArray, List.map_cons, List.map_nil]); first | done | rfl | (simp only [List.length_drop, List.length_take]; rfl)) ?_; (with_reducible refine (ring_both.calls k a0 a1 t118 _ A3.out).mono ?_); rintro e w' ⟨rfl, ⟨nd, rfl⟩⟩; refine ⟨_, rfl, ?_⟩))
  go_loopg [7, 8, 9, 10] k (fun kq v7 v8 v9 v10 w' => ∃ (x7_1 : Int) (x8_1 : Int) (x9_1 : Int) (x10_1 : Int), v7 = .int .i64 x7_1 ∧ v8 = .int .i64 x8_1 ∧ v9 = .int .i64 x9_1 ∧ v10 = .int .i64 x10_1 ∧ Aside0 (ring_Inv.l0 kq a0 x7_1 x8_1 x9_1 x10_1 = some (r1, r2)) ∧ Aside0 (kq ≤ k) ∧ Drawn0 w w')
  case atStart => exact ⟨(a1), (a0), (1), (0), (by first | rfl | (simp; done) | (simp [*]; done)), (by first | rfl | (simp; done) | (simp [*]; done)), (by first | rfl | (simp; done) | (simp [*]; done)), (by first | rfl | (simp; done) | (simp [*]; done)), H', ⟨Nat.le_refl _⟩, by repeat (first | exact Drawn0.refl _ | apply Drawn0.step)⟩
  case round =>
    clear H'
    try clear c1
    try clear c2
    try clear p2
    try clear c4
    try clear c4b0
    try clear c4b1
    try clear c5
    try clear c5b0
    try clear c5b1
    obtain ⟨x7_1, x8_1, x9_1, x10_1, rfl, rfl, rfl, rfl, HA, HK1, ⟨m1, rfl⟩⟩ := hrel
    cases gk with
    | zero => exact absurd HA.out (by simp [ring_Inv.l0])
    | succ k1 =>
      have H := HA.out
      clear HA
      simp only [ring_Inv.l0] at H
      by_cases c6 : x8_1 > 0
      rotate_left
      · rw [if_neg c6] at H
        have c6b0 : decide (0 < x8_1) = false := decide_eq_false c6
        clear c6
        by_cases c8 : a0 = 0
        · rw [if_pos c8] at H
          exact absurd H (by simp)
        rw [if_neg c8] at H
        have c8b0 : (a0 == 0) = false := beq_eq_false_iff_ne.mpr c8
        have c8b1 : (a0 != 0) = true := bne_iff_ne.mpr c8
        simp only [Option.some.injEq, Prod.mk.injEq] at H
        obtain ⟨rfl, rfl⟩ := H
        go_wp2
        go_ret2
        exact ⟨by first | rfl | (simp; done) | (simp [*]; done), by repeat (first | exact Drawn0.refl _ | apply Drawn0.step)⟩
      rw [if_pos c6] at H
      have c6b0 : decide (0 < x8_1) = true := decide_eq_true c6
      clear c6
      by_cases c7 : x8_1 = 0
      · rw [if_pos c7] at H
        exact absurd H (by simp)
      rw [if_neg c7] at H
      have c7b0 : (x8_1 == 0) = false := beq_eq_false_iff_ne.mpr c7
      have c7b1 : (x8_1 != 0) = true := bne_iff_ne.mpr c7
      have H' := Aside0.mk H
      clear H
      go_wp2
      go_roundg k1
      case measure => have := HK1.out; omega
      case rel => exact ⟨(x8_1), (wrap64 (x7_1 - (wrap64 ((wrap64 (Int.tdiv x7_1 x8_1)) * x8_1)))), (x10_1), (wrap64 (x9_1 - (wrap64 ((wrap64 (Int.tdiv x7_1 x8_1)) * x10_1)))), (by first | rfl | (simp; done) | (simp [*]; done)), (by first | rfl | (simp; done) | (simp [*]; done)), (by first | rfl | (simp; done) | (simp [*]; done)), (by first | rfl | (simp; done) | (simp [*]; done)), H', ⟨by have := HK1.out; omega⟩, by repeat (first | exact Drawn0.refl _ | apply Drawn0.step)⟩

/-! ### fringeref10_Inv: function 13 -/
def fringeref10_Inv.f (k : Nat) (a0 : Int) (a1 : Int) : Option (Int × Int) := (fringeref10_Both.f k a0 a1).bind fun t119 => (if t119 = 0 then (if a1 = 0 then (some (0, 18)) else ((fringeref10_Power.f k a0 a1 (wrap64 (a0 - 2))).bind fun t120 => (some (t120, 0)))) else ((fringeref10_Both.f k a0 a1).bind fun t121 => (some (0, t121))))
theorem fringeref10_Inv.mono : ∀ a0 a1 k, LeO (fringeref10_Inv.f k a0 a1) (fringeref10_Inv.f (k + 1) a0 a1) := by
  intro a0 a1 k
  unfold fringeref10_Inv.f
  repeat' first
      | (with_reducible exact fringeref10_Both.mono _ _ _)
      | (with_reducible exact fringeref10_Power.mono _ _ _ _)
      | (with_reducible exact LeO.refl _)
      | (with_reducible exact LeO.none _)
      | (with_reducible refine LeO.ite ?_ ?_)
      | (with_reducible refine LeO.bind ?_ (fun _ => ?_))
      | exact fringeref10_Both.mono _ _ _
      | exact fringeref10_Power.mono _ _ _ _
      | exact LeO.none _
      | refine LeO.ite ?_ ?_
      | refine LeO.bind ?_ (fun _ => ?_)
set_option maxHeartbeats 8000000 in
set_option maxRecDepth 100000 in
theorem fringeref10_Inv.calls (k : Nat) (a0 : Int) (a1 : Int) (r1 : Int) (r2 : Int) (w : World) (h : fringeref10_Inv.f k a0 a1 = some (r1, r2)) :
    Calls Try.prog 13 #[.int .i64 a0, .int .i64 a1] w fun e w' => e = .returned (.tuple #[.int .i64 r1, .int .i64 r2]) ∧ Below w.heap.size w w' := by
  have HB := Aside0.mk (Below.refl w.heap.size w)
  have H : ((fringeref10_Both.f k a0 a1).bind fun t119 => (if t119 = 0 then (if a1 = 0 then (some (0, 18)) else ((fringeref10_Power.f k a0 a1 (wrap64 (a0 - 2))).bind fun t120 => (some (t120, 0)))) else ((fringeref10_Both.f k a0 a1).bind fun t121 => (some (0, t121))))) = some (r1, r2) := h
  clear h
  replace H := Option.bind_eq_some_iff.mp H
  obtain ⟨t119, A30, H⟩ := H
  replace H : (if t119 = 0 then (if a1 = 0 then (some (0, 18)) else ((fringeref10_Power.f k a0 a1 (wrap64 (a0 - 2))).bind fun t120 => (some (t120, 0)))) else ((fringeref10_Both.f k a0 a1).bind fun t121 => (some (0, t121)))) = some (r1, r2) := H
  have A3 := Aside0.mk A30
  clear A30
  by_cases c4 : t119 = 0
  rotate_left
  · rw [if_neg c4] at H
    have c4b0 : (t119 == 0) = false := beq_eq_false_iff_ne.mpr c4
    have c4b1 : (t119 != 0) = true := bne_iff_ne.mpr c4
    replace H := Option.bind_eq_some_iff.mp H
    obtain ⟨t121, A90, H⟩ := H
    replace H : (some (0, t121)) = some (r1, r2) := H
    have A9 := Aside0.mk A90
    clear A90
    simp only [Option.some.injEq, Prod.mk.injEq] at H
    obtain ⟨rfl, rfl⟩ := H
    go_enter Try.func13, Try.ntmps13
    go_wp2_with (first | ((with_reducible refine gate_callee (f := 25) rfl ?_); refine goesL_ (some 8) rfl rfl Try.func25 (by kernel_rfl) rfl #[.int .i64 a0, .int .i64 a1] rfl (by (try simp only [List.map_toArray, List.map_cons, List.map_nil]); first | done | rfl | (simp only [List.length_drop, List.length_take]; rfl)) ?_; (with_reducible refine (fringeref10_Both.calls k a0 a1 t119 _ A3.out).mono ?_); rintro e w10 ⟨rfl, hb⟩; refine ⟨_, rfl, ?_⟩; have n0_ := Aside0.mk (below_step (by repeat (first | (with_reducible first | exact HB.out | apply below_alloc | apply pw_below_drewN | apply below_drew1) | exact HB.out)) hb); clear HB; have HB := n0_; clear n0_; (try clear hb); (try clear hb2); (try clear hk); (try clear hi)) | ((with_reducible refine gate_callee (f := 25) rfl ?_); refine goesL_ (some 12) rfl rfl Try.func25 (by kernel_rfl) rfl #[.int .i64 a0, .int .i64 a1] rfl (by (try simp only [List.map_toArray, List.map_cons, List.map_nil]); first | done | rfl | (simp only [List.length_drop, List.length_take]; rfl)) ?_; (with_reducible refine (fringeref10_Both.calls k a0 a1 t121 _ A9.out).mono ?_); rintro e w11 ⟨rfl, hb⟩; refine ⟨_, rfl, ?_⟩; have n0_ := Aside0.mk (below_step (by repeat (first | (with_reducible first | exact HB.out | apply below_alloc | apply pw_below_drewN | apply below_drew1) | exact HB.out)) hb); clear HB; have HB := n0_; clear n0_; (try clear hb); (try clear hb2); (try clear hk); (try clear hi)))
    go_ret2
    exact ⟨by first | rfl | (simp [errW_none, errW_some] <;> rfl) | (simp [*, errW_none, errW_some] <;> rfl), by repeat (first | (with_reducible first | exact HB.out | apply below_alloc | apply pw_below_drewN | apply below_drew1) | exact HB.out)⟩
  rw [if_pos c4] at H
  have c4b0 : (t119 == 0) = true := beq_iff_eq.mpr c4
  have c4b1 : (t119 != 0) = false := bne_eq_false_iff_eq.mpr c4
  clear c4
  by_cases c5 : a1 = 0
  · rw [if_pos c5] at H
    have c5b0 : (a1 == 0) = true := beq_iff_eq.mpr c5
    have c5b1 : (a1 != 0) = false := bne_eq_false_iff_eq.mpr c5
    clear c5
    simp only [Option.some.injEq, Prod.mk.injEq] at H
    obtain ⟨rfl, rfl⟩ := H
    go_enter Try.func13, Try.ntmps13
    go_wp2_with (first | ((with_reducible refine gate_callee (f := 25) rfl ?_); refine goesL_ (some 8) rfl rfl Try.func25 (by kernel_rfl) rfl #[.int .i64 a0, .int .i64 a1] rfl (by (try simp only [List.map_toArray, List.map_cons, List.map_nil]); first | done | rfl | (simp only [List.length_drop, List.length_take]; rfl)) ?_; (with_reducible refine (fringeref10_Both.calls k a0 a1 t119 _ A3.out).mono ?_); rintro e w6 ⟨rfl, hb⟩; refine ⟨_, rfl, ?_⟩; have n0_ := Aside0.mk (below_step (by repeat (first | (with_reducible first | exact HB.out | apply below_alloc | apply pw_below_drewN | apply below_drew1) | exact HB.out)) hb); clear HB; have HB := n0_; clear n0_; (try clear hb); (try clear hb2); (try clear hk); (try clear hi)))
    go_ret2
    exact ⟨by first | rfl | (simp [errW_none, errW_some] <;> rfl) | (simp [*, errW_none, errW_some] <;> rfl), by repeat (first | (with_reducible first | exact HB.out | apply below_alloc | apply pw_below_drewN | apply below_drew1) | exact HB.out)⟩
  rw [if_neg c5] at H
  have c5b0 : (a1 == 0) = false := beq_eq_false_iff_ne.mpr c5
  have c5b1 : (a1 != 0) = true := bne_iff_ne.mpr c5
  replace H := Option.bind_eq_some_iff.mp H
  obtain ⟨t120, A70, H⟩ := H
  replace H : (some (t120, 0)) = some (r1, r2) := H
  have A7 := Aside0.mk A70
  clear A70
  simp only [Option.some.injEq, Prod.mk.injEq] at H
  obtain ⟨rfl, rfl⟩ := H
  go_enter Try.func13, Try.ntmps13
  go_wp2_with (first | ((with_reducible refine gate_callee (f := 25) rfl ?_); refine goesL_ (some 8) rfl rfl Try.func25 (by kernel_rfl) rfl #[.int .i64 a0, .int .i64 a1] rfl (by (try simp only [List.map_toArray, List.map_cons, List.map_nil]); first | done | rfl | (simp only [List.length_drop, List.length_take]; rfl)) ?_; (with_reducible refine (fringeref10_Both.calls k a0 a1 t119 _ A3.out).mono ?_); rintro e w8 ⟨rfl, hb⟩; refine ⟨_, rfl, ?_⟩; have n0_ := Aside0.mk (below_step (by repeat (first | (with_reducible first | exact HB.out | apply below_alloc | apply pw_below_drewN | apply below_drew1) | exact HB.out)) hb); clear HB; have HB := n0_; clear n0_; (try clear hb); (try clear hb2); (try clear hk); (try clear hi)) | ((with_reducible refine gate_callee (f := 27) rfl ?_); refine goesL_ (some 19) rfl rfl Try.func27 (by kernel_rfl) rfl #[.int .i64 a0, .int .i64 a1, .int .i64 (wrap64 (a0 - 2))] rfl (by (try simp only [List.map_toArray, List.map_cons, List.map_nil]); first | done | rfl | (simp only [List.length_drop, List.length_take]; rfl)) ?_; (with_reducible refine (fringeref10_Power.calls k a0 a1 (wrap64 (a0 - 2)) t120 _ A7.out).mono ?_); rintro e w' ⟨rfl, ⟨nd, rfl⟩⟩; refine ⟨_, rfl, ?_⟩))
  go_ret2
  exact ⟨by first | rfl | (simp [errW_none, errW_some] <;> rfl) | (simp [*, errW_none, errW_some] <;> rfl), by repeat (first | (with_reducible first | exact HB.out | apply below_alloc | apply pw_below_drewN | apply below_drew1) | exact HB.out)⟩

/-! ### fringelaw10_RingWorks: function 3 -/
def fringelaw10_RingWorks.f (k : Nat) (a0 : Int) (a1 : Int) (a2 : Int) : Option (Bool) := (ring_Pow.f k a0 a1 a2).bind fun bt122 => ((fringeref10_Pow.f k a0 a1 a2).bind fun bt124 => ((ring_Inv.f k a0 a1).bind fun bt126 => ((fringeref10_Inv.f k a0 a1).bind fun bt128 => ((ring_Check.f k a0).bind fun t130 => ((fringeref10_Check.f k a0).bind fun t131 => (if t130 = t131 then (if bt122.1 = bt124.1 then (if bt122.2 = bt124.2 then (if bt126.1 = bt128.1 then (some (bt126.2 == bt128.2)) else (some false)) else (some false)) else (some false)) else (some false)))))))
theorem fringelaw10_RingWorks.mono : ∀ a0 a1 a2 k, LeO (fringelaw10_RingWorks.f k a0 a1 a2) (fringelaw10_RingWorks.f (k + 1) a0 a1 a2) := by
  intro a0 a1 a2 k
  unfold fringelaw10_RingWorks.f
  repeat' first
      | (with_reducible exact fringeref10_Check.mono _ _)
      | (with_reducible exact fringeref10_Inv.mono _ _ _)
      | (with_reducible exact fringeref10_Pow.mono _ _ _ _)
      | (with_reducible exact ring_Check.mono _ _)
      | (with_reducible exact ring_Inv.mono _ _ _)
      | (with_reducible exact ring_Pow.mono _ _ _ _)
      | (with_reducible exact LeO.refl _)
      | (with_reducible exact LeO.none _)
      | (with_reducible refine LeO.ite ?_ ?_)
      | (with_reducible refine LeO.bind ?_ (fun _ => ?_))
      | exact fringeref10_Check.mono _ _
      | exact fringeref10_Inv.mono _ _ _
      | exact fringeref10_Pow.mono _ _ _ _
      | exact ring_Check.mono _ _
      | exact ring_Inv.mono _ _ _
      | exact ring_Pow.mono _ _ _ _
      | exact LeO.none _
      | refine LeO.ite ?_ ?_
      | refine LeO.bind ?_ (fun _ => ?_)
set_option maxHeartbeats 8000000 in
set_option maxRecDepth 100000 in
theorem fringelaw10_RingWorks.calls (k : Nat) (a0 : Int) (a1 : Int) (a2 : Int) (r : Bool) (w : World) (hrt : r = true) (h : fringelaw10_RingWorks.f k a0 a1 a2 = some r) :
    Calls Try.prog 3 #[.int .i64 a0, .int .i64 a1, .int .i64 a2] w fun e w' => e = .returned (.bool r) ∧ Below w.heap.size w w' := by
  have HB := Aside0.mk (Below.refl w.heap.size w)
  have HRT := Aside0.mk hrt
  clear hrt
  have H : ((ring_Pow.f k a0 a1 a2).bind fun bt122 => ((fringeref10_Pow.f k a0 a1 a2).bind fun bt124 => ((ring_Inv.f k a0 a1).bind fun bt126 => ((fringeref10_Inv.f k a0 a1).bind fun bt128 => ((ring_Check.f k a0).bind fun t130 => ((fringeref10_Check.f k a0).bind fun t131 => (if t130 = t131 then (if bt122.1 = bt124.1 then (if bt122.2 = bt124.2 then (if bt126.1 = bt128.1 then (some (bt126.2 == bt128.2)) else (some false)) else (some false)) else (some false)) else (some false)))))))) = some r := h
  clear h
  replace H := Option.bind_eq_some_iff.mp H
  obtain ⟨⟨t122, t123⟩, A40, H⟩ := H
  replace H : ((fringeref10_Pow.f k a0 a1 a2).bind fun bt124 => ((ring_Inv.f k a0 a1).bind fun bt126 => ((fringeref10_Inv.f k a0 a1).bind fun bt128 => ((ring_Check.f k a0).bind fun t130 => ((fringeref10_Check.f k a0).bind fun t131 => (if t130 = t131 then (if t122 = bt124.1 then (if t123 = bt124.2 then (if bt126.1 = bt128.1 then (some (bt126.2 == bt128.2)) else (some false)) else (some false)) else (some false)) else (some false))))))) = some r := H
  have A4 := Aside0.mk A40
  clear A40
  replace H := Option.bind_eq_some_iff.mp H
  obtain ⟨⟨t124, t125⟩, A50, H⟩ := H
  replace H : ((ring_Inv.f k a0 a1).bind fun bt126 => ((fringeref10_Inv.f k a0 a1).bind fun bt128 => ((ring_Check.f k a0).bind fun t130 => ((fringeref10_Check.f k a0).bind fun t131 => (if t130 = t131 then (if t122 = t124 then (if t123 = t125 then (if bt126.1 = bt128.1 then (some (bt126.2 == bt128.2)) else (some false)) else (some false)) else (some false)) else (some false)))))) = some r := H
  have A5 := Aside0.mk A50
  clear A50
  replace H := Option.bind_eq_some_iff.mp H
  obtain ⟨⟨t126, t127⟩, A60, H⟩ := H
  replace H : ((fringeref10_Inv.f k a0 a1).bind fun bt128 => ((ring_Check.f k a0).bind fun t130 => ((fringeref10_Check.f k a0).bind fun t131 => (if t130 = t131 then (if t122 = t124 then (if t123 = t125 then (if t126 = bt128.1 then (some (t127 == bt128.2)) else (some false)) else (some false)) else (some false)) else (some false))))) = some r := H
  have A6 := Aside0.mk A60
  clear A60
  replace H := Option.bind_eq_some_iff.mp H
  obtain ⟨⟨t128, t129⟩, A70, H⟩ := H
  replace H : ((ring_Check.f k a0).bind fun t130 => ((fringeref10_Check.f k a0).bind fun t131 => (if t130 = t131 then (if t122 = t124 then (if t123 = t125 then (if t126 = t128 then (some (t127 == t129)) else (some false)) else (some false)) else (some false)) else (some false)))) = some r := H
  have A7 := Aside0.mk A70
  clear A70
  replace H := Option.bind_eq_some_iff.mp H
  obtain ⟨t130, A80, H⟩ := H
  replace H : ((fringeref10_Check.f k a0).bind fun t131 => (if t130 = t131 then (if t122 = t124 then (if t123 = t125 then (if t126 = t128 then (some (t127 == t129)) else (some false)) else (some false)) else (some false)) else (some false))) = some r := H
  have A8 := Aside0.mk A80
  clear A80
  replace H := Option.bind_eq_some_iff.mp H
  obtain ⟨t131, A90, H⟩ := H
  replace H : (if t130 = t131 then (if t122 = t124 then (if t123 = t125 then (if t126 = t128 then (some (t127 == t129)) else (some false)) else (some false)) else (some false)) else (some false)) = some r := H
  have A9 := Aside0.mk A90
  clear A90
  by_cases c10 : t130 = t131
  rotate_left
  · rw [if_neg c10] at H
    have c10b0 : (t130 == t131) = false := beq_eq_false_iff_ne.mpr c10
    have c10b1 : (t130 != t131) = true := bne_iff_ne.mpr c10
    exact absurd ((Option.some.inj H).trans HRT.out) (by decide)

  rw [if_pos c10] at H
  have c10b0 : (t130 == t131) = true := beq_iff_eq.mpr c10
  have c10b1 : (t130 != t131) = false := bne_eq_false_iff_eq.mpr c10
  clear c10
  by_cases c11 : t122 = t124
  rotate_left
  · rw [if_neg c11] at H
    have c11b0 : (t122 == t124) = false := beq_eq_false_iff_ne.mpr c11
    have c11b1 : (t122 != t124) = true := bne_iff_ne.mpr c11
    exact absurd ((Option.some.inj H).trans HRT.out) (by decide)
  rw [if_pos c11] at H
  have c11b0 : (t122 == t124) = true := beq_iff_eq.mpr c11
  have c11b1 : (t122 != t124) = false := bne_eq_false_iff_eq.mpr c11
  clear c11
  by_cases c12 : t123 = t125
  rotate_left
  · rw [if_neg c12] at H
    have c12b0 : (t123 == t125) = false := beq_eq_false_iff_ne.mpr c12
    have c12b1 : (t123 != t125) = true := bne_iff_ne.mpr c12
    exact absurd ((Option.some.inj H).trans HRT.out) (by decide)
  rw [if_pos c12] at H
  have c12b0 : (t123 == t125) = true := beq_iff_eq.mpr c12
  have c12b1 : (t123 != t125) = false := bne_eq_false_iff_eq.mpr c12
  clear c12
  by_cases c13 : t126 = t128
  rotate_left
  · rw [if_neg c13] at H
    have c13b0 : (t126 == t128) = false := beq_eq_false_iff_ne.mpr c13
    have c13b1 : (t126 != t128) = true := bne_iff_ne.mpr c13
    exact absurd ((Option.some.inj H).trans HRT.out) (by decide)
  rw [if_pos c13] at H
  have c13b0 : (t126 == t128) = true := beq_iff_eq.mpr c13
  have c13b1 : (t126 != t128) = false := bne_eq_false_iff_eq.mpr c13
  clear c13
  obtain rfl := Option.some.inj H
  go_enter Try.func3, Try.ntmps3
  go_wp2_with (first | ((with_reducible refine gate_callee (f := 10) rfl ?_); refine goesL_ (some 19) rfl rfl Try.func10 (by kernel_rfl) rfl #[.int .i64 a0, .int .i64 a1, .int .i64 a2] rfl (by (try simp only [List.map_toArray, List.map_cons, List.map_nil]); first | done | rfl | (simp only [List.length_drop, List.length_take]; rfl)) ?_; (with_reducible refine (ring_Pow.calls k a0 a1 a2 t122 t123 _ A4.out).mono ?_); rintro e w' ⟨rfl, ⟨nd, rfl⟩⟩; refine ⟨_, rfl, ?_⟩) | ((with_reducible refine gate_callee (f := 11) rfl ?_); refine goesL_ (some 26) rfl rfl Try.func11 (by kernel_rfl) rfl #[.int .i64 a0, .int .i64 a1, .int .i64 a2] rfl (by (try simp only [List.map_toArray, List.map_cons, List.map_nil]); first | done | rfl | (simp only [List.length_drop, List.length_take]; rfl)) ?_; (with_reducible refine (fringeref10_Pow.calls k a0 a1 a2 t124 t125 _ A5.out).mono ?_); rintro e w14 ⟨rfl, hb⟩; refine ⟨_, rfl, ?_⟩; have n0_ := Aside0.mk (below_step (by repeat (first | (with_reducible first | exact HB.out | apply below_alloc | apply pw_below_drewN | apply below_drew1) | exact HB.out)) hb); clear HB; have HB := n0_; clear n0_; (try clear hb); (try clear hb2); (try clear hk); (try clear hi)) | ((with_reducible refine gate_callee (f := 12) rfl ?_); refine goesL_ (some 32) rfl rfl Try.func12 (by kernel_rfl) rfl #[.int .i64 a0, .int .i64 a1] rfl (by (try simp only [List.map_toArray, List.map_cons, List.map_nil]); first | done | rfl | (simp only [List.length_drop, List.length_take]; rfl)) ?_; (with_reducible refine (ring_Inv.calls k a0 a1 t126 t127 _ A6.out).mono ?_); rintro e w' ⟨rfl, ⟨nd, rfl⟩⟩; refine ⟨_, rfl, ?_⟩) | ((with_reducible refine gate_callee (f := 13) rfl ?_); refine goesL_ (some 38) rfl rfl Try.func13 (by kernel_rfl) rfl #[.int .i64 a0, .int .i64 a1] rfl (by (try simp only [List.map_toArray, List.map_cons, List.map_nil]); first | done | rfl | (simp only [List.length_drop, List.length_take]; rfl)) ?_; (with_reducible refine (fringeref10_Inv.calls k a0 a1 t128 t129 _ A7.out).mono ?_); rintro e w15 ⟨rfl, hb⟩; refine ⟨_, rfl, ?_⟩; have n0_ := Aside0.mk (below_step (by repeat (first | (with_reducible first | exact HB.out | apply below_alloc | apply pw_below_drewN | apply below_drew1) | exact HB.out)) hb); clear HB; have HB := n0_; clear n0_; (try clear hb); (try clear hb2); (try clear hk); (try clear hi)) | ((with_reducible refine gate_callee (f := 14) rfl ?_); refine goesL_ (some 42) rfl rfl Try.func14 (by kernel_rfl) rfl #[.int .i64 a0] rfl (by (try simp only [List.map_toArray, List.map_cons, List.map_nil]); first | done | rfl | (simp only [List.length_drop, List.length_take]; rfl)) ?_; (with_reducible refine (ring_Check.calls k a0 t130 _ A8.out).mono ?_); rintro e w' ⟨rfl, ⟨nd, rfl⟩⟩; refine ⟨_, rfl, ?_⟩) | ((with_reducible refine gate_callee (f := 15) rfl ?_); refine goesL_ (some 44) rfl rfl Try.func15 (by kernel_rfl) rfl #[.int .i64 a0] rfl (by (try simp only [List.map_toArray, List.map_cons, List.map_nil]); first | done | rfl | (simp only [List.length_drop, List.length_take]; rfl)) ?_; (with_reducible refine (fringeref10_Check.calls k a0 t131 _ A9.out).mono ?_); rintro e w16 ⟨rfl, hb⟩; refine ⟨_, rfl, ?_⟩; have n0_ := Aside0.mk (below_step (by repeat (first | (with_reducible first | exact HB.out | apply below_alloc | apply pw_below_drewN | apply below_drew1) | exact HB.out)) hb); clear HB; have HB := n0_; clear n0_; (try clear hb); (try clear hb2); (try clear hk); (try clear hi)))
  go_ret
  exact ⟨by first | rfl | (simp [errW_none, errW_some] <;> rfl) | (simp [*, errW_none, errW_some] <;> rfl), by repeat (first | (with_reducible first | exact HB.out | apply below_alloc | apply pw_below_drewN | apply below_drew1) | exact HB.out)⟩
/-- THE ONE PURE STATEMENT of fringelaw10_RingWorks: yours. -/
def fringelaw10_RingWorks.Pure : Prop := ∀ (a0 : Int) (a1 : Int) (a2 : Int), (Lit.int .i64 a0).wf = true → (Lit.int .i64 a1).wf = true → (Lit.int .i64 a2).wf = true → ∃ k, fringelaw10_RingWorks.f k a0 a1 a2 = some true
theorem fringelaw10_RingWorks.walk (P : fringelaw10_RingWorks.Pure) (a0 : Int) (a1 : Int) (a2 : Int) (w : World) (w0 : (Lit.int .i64 a0).wf = true) (w1 : (Lit.int .i64 a1).wf = true) (w2 : (Lit.int .i64 a2).wf = true) :
    Calls Try.prog 3 #[.int .i64 a0, .int .i64 a1, .int .i64 a2] w fun e w' => e = .returned (.bool true) ∧ Below w.heap.size w w' := by
  obtain ⟨k, h⟩ := P a0 a1 a2 w0 w1 w2
  refine (fringelaw10_RingWorks.calls k a0 a1 a2 true w rfl h).mono ?_
  rintro e w' ⟨rfl, hd⟩
  exact ⟨rfl, hd⟩

/-! ### ring_split: function 31 -/
theorem ring_split.info : (Try.prog.info? 2).map (fun i => (i.zero, i.size, i.bytes)) = some (some (.int .i64 0), 1, 8) := by kernel_rfl
def ring_take.l0 : Nat → Int → Int → List Int → Option (Int × List Int)
  | 0, _, _, _ => none
  | k + 1, d, n, out => if d = 0 then none else (if (Int.tmod n d) = 0 then (if out.length < 17592186044416 then ring_take.l0 k d (wrap64 (Int.tdiv n d)) (out ++ [d]) else none) else some (n, out))

theorem ring_take.calls (k : Nat) (d n n1 : Int) (out out1 : List Int) (bn bo base : Nat) (v : Value) (w : World)
    (hk : ring_take.l0 k d n out = some (n1, out1)) (hne : bn ≠ bo) (hbn : base ≤ bn) (hbo : base ≤ bo)
    (hn : w.heap[bn]? = some (.cells #[.int .i64 n] 2 (0, 0))) (ho : w.heap[bo]? = some (.cells #[v] 32 (0, 0)))
    (hr : Kd.R (Kd.int .i64) 2 w base (fun k => k ≠ bn ∧ k ≠ bo) v out) :
    Calls Try.prog 36 #[.int .i64 d, .pointer (some ⟨bn, 0, none⟩), .pointer (some ⟨bo, 0, none⟩)] w fun e w' => e = .returned (.tuple #[]) ∧
      ∃ v1, w'.heap[bn]? = some (.cells #[.int .i64 n1] 2 (0, 0)) ∧ w'.heap[bo]? = some (.cells #[v1] 32 (0, 0)) ∧ Kd.R (Kd.int .i64) 2 w' base (fun k => k ≠ bn ∧ k ≠ bo) v1 out1 ∧ Below base w w' := by
  have HK := Aside0.mk hk
  have HN := Aside0.mk hn
  have HO := Aside0.mk ho
  have HR := Aside0.mk hr
  clear hk hn ho hr
  go_enter Try.func36, Try.ntmps36
  go_wp2
  go_loopg [] k (fun kq w' => ∃ (n_ : Int) (out_ : List Int) (v_ : Value), Aside0 (ring_take.l0 kq d n_ out_ = some (n1, out1)) ∧ Aside0 (w'.heap[bn]? = some (.cells #[.int .i64 n_] 2 (0, 0))) ∧ Aside0 (w'.heap[bo]? = some (.cells #[v_] 32 (0, 0))) ∧ Aside0 (Kd.R (Kd.int .i64) 2 w' base (fun k => k ≠ bn ∧ k ≠ bo) v_ out_) ∧ Aside0 (Below base w w'))
  case atStart => exact ⟨n, out, v, HK, HN, HO, HR, ⟨Below.refl _ _⟩⟩
  case round =>
    clear HK HN HO HR
    obtain ⟨n_, out_, v_, HK, HN, HO, HR, HB⟩ := hrel
    cases gk with
    | zero => exact absurd HK.out (by simp [ring_take.l0])
    | succ k1 =>
      have H := HK.out
      clear HK
      simp only [ring_take.l0] at H
      have cn : wr.cell? ⟨bn, 0, none⟩ = some (.int .i64 n_) := (blk_cell HN.out 0).trans rfl
      by_cases c1 : d = 0
      · rw [if_pos c1] at H
        exact absurd H (by simp)
      · rw [if_neg c1] at H
        have c1b0 : (d == 0) = false := beq_eq_false_iff_ne.mpr c1
        have c1b1 : (d != 0) = true := bne_iff_ne.mpr c1
        by_cases c2 : Int.tmod n_ d = 0
        · rw [if_pos c2] at H
          have c2b0 : (Int.tmod n_ d == 0) = true := beq_iff_eq.mpr c2
          clear c2
          by_cases c3 : out_.length < 17592186044416
          · rw [if_pos c3] at H
            have H' := Aside0.mk H
            clear H
            have HL := Aside0.mk c3
            clear c3
            have fn_ : wr.frozen? ⟨bn, 0, none⟩ = false := blk_frozen HN.out 0
            have fo_ : wr.frozen? ⟨bo, 0, none⟩ = false := blk_frozen HO.out 0
            obtain ⟨i0, hi, hz0, hz1, hz2⟩ := info_parts ring_split.info
            rcases R_cells64 HR.out with ⟨rfl, rfl⟩ | ⟨g, c, rfl, hlc, hcl⟩
            · have co : wr.cell? ⟨bo, 0, none⟩ = some (.slice none 0 0) := (blk_cell HO.out 0).trans rfl
              have HI := Aside0.mk hi
              clear hi
              go_wp2_with (first | ((with_reducible refine gate_builtin (b := .append) (xs := #[.tmp 13, .tmp 15]) rfl ?_); at_builtin; refine wpList_append_grows _ rfl (.tmp 13) (.tmp 15) 32 rfl 2 i0 (.int .i64 0) 1 8 Try.underlying32 HI.out hz0 hz1 hz2 rfl (by decide) none 0 0 [] rfl (fun _ => ⟨rfl, rfl⟩) (by simp) ?aO ⟨wr.heap.size, 0, none⟩ 1 1 [.int .i64 d] rfl rfl (cell_one_new _ _ _) (by simp [Value.oneCell']) (by omega) ?aM ?aL ?_; (case aO => exact (fun b e => by cases e)); (case aM => have := HL.out; unfold maxLen; omega); (case aL => have := HL.out; omega); intro v1 w1 hown hg; obtain ⟨g1, cap1, rfl, hg1, _⟩ := hown.form (by omega); have HN1 := Aside0.mk (blk_grown (blk_alloc HN.out _) hg (by simp)); have HO1 := Aside0.mk (blk_grown (blk_alloc HO.out _) hg (by simp)); have co1 := (blk_cell HO1.out 0).trans rfl; have fo1 := blk_frozen HO1.out 0; have cn1 := (blk_cell HN1.out 0).trans rfl; have fn1 := blk_frozen HN1.out 0; have HW := Aside0.mk hown; have HG := Aside0.mk hg; clear hown hg))
              have hb1 := blk_lt HN.out
              have ho1 := blk_lt HO.out
              go_roundg k1
              case measure => omega
              case rel =>
                refine ⟨_, _, _, H', ⟨blk_set (blk_far HN1.out hne _) 0 _⟩, ⟨blk_far (blk_set HO1.out 0 _) (fun e => hne e.symm) _⟩, ⟨Kd.R_far (Kd.R_far (R_made64 HW.out (by simp) (by simp) (by simp; omega) (fun k hk => by simp at hk; constructor <;> omega)) (fun k hk => hk.2) _) (fun k hk => hk.1) _⟩, ⟨?_⟩⟩
                exact ((Below.grown (HB.out.alloc (by omega) _) HG.out (by simp; omega) (fun k e => by cases e)).setCell hbo _).setCell hbn _
            · have co : wr.cell? ⟨bo, 0, none⟩ = some (.slice (some ⟨g, 0, none⟩) out_.length c) := (blk_cell HO.out 0).trans rfl
              have h0 : (0 : Int) ≤ (out_.length : Int) := by omega
              have h2 : (out_.length : Int) ≤ (c : Int) := by omega
              have HC := Aside0.mk hcl
              have HI := Aside0.mk hi
              clear hcl hi
              go_wp2_with (first | ((with_reducible refine gate_builtin (b := .append) (xs := #[.tmp 13, .tmp 15]) rfl ?_); at_builtin; refine wpList_append_grows _ rfl (.tmp 13) (.tmp 15) 32 rfl 2 i0 (.int .i64 0) 1 8 Try.underlying32 HI.out hz0 hz1 hz2 rfl (by decide) (some ⟨g, 0, none⟩) out_.length out_.length (out_.map (Value.int .i64)) rfl (fun e => by cases e) (by simp) ?aO ⟨wr.heap.size, 0, none⟩ 1 1 [.int .i64 d] rfl rfl (cell_one_new _ _ _) (by simp [Value.oneCell']) (by omega) ?aM ?aL ?_; (case aO => exact (fun b e j u hj => by cases e; exact pw_cell_below (below_alloc (Below.refl _ _) _) (HC.out j u hj))); (case aM => have := HL.out; unfold maxLen; omega); (case aL => have := HL.out; omega); intro v1 w1 hown hg; obtain ⟨g1, cap1, rfl, hg1, _⟩ := hown.form (by omega); have HN1 := Aside0.mk (blk_grown (blk_alloc HN.out _) hg (by simp)); have HO1 := Aside0.mk (blk_grown (blk_alloc HO.out _) hg (by simp)); have co1 := (blk_cell HO1.out 0).trans rfl; have fo1 := blk_frozen HO1.out 0; have cn1 := (blk_cell HN1.out 0).trans rfl; have fn1 := blk_frozen HN1.out 0; have HW := Aside0.mk hown; have HG := Aside0.mk hg; clear hown hg))
              have hb1 := blk_lt HN.out
              have ho1 := blk_lt HO.out
              go_roundg k1
              case measure => omega
              case rel =>
                refine ⟨_, _, _, H', ⟨blk_set (blk_far HN1.out hne _) 0 _⟩, ⟨blk_far (blk_set HO1.out 0 _) (fun e => hne e.symm) _⟩, ⟨Kd.R_far (Kd.R_far (R_made64 HW.out (by simp) (by simp) (by simp; omega) (fun k hk => by simp at hk; constructor <;> omega)) (fun k hk => hk.2) _) (fun k hk => hk.1) _⟩, ⟨?_⟩⟩
                exact ((Below.grown (HB.out.alloc (by omega) _) HG.out (by simp; omega) (fun k e => by cases e)).setCell hbo _).setCell hbn _
          · rw [if_neg c3] at H
            exact absurd H (by simp)
        · rw [if_neg c2] at H
          have c2b0 : (Int.tmod n_ d == 0) = false := beq_eq_false_iff_ne.mpr c2
          clear c2
          simp only [Option.some.injEq, Prod.mk.injEq] at H
          obtain ⟨rfl, rfl⟩ := H
          go_wp2
          go_end0
          exact ⟨rfl, v_, HN.out, HO.out, HR.out, HB.out⟩

theorem ring_take.mono_l : ∀ k d n out, LeO (ring_take.l0 k d n out) (ring_take.l0 (k + 1) d n out)
  | 0 => fun _ _ _ r h => by simp [ring_take.l0] at h
  | k + 1 => by
    intro d n out
    have ih := ring_take.mono_l k
    unfold ring_take.l0
    repeat' first
      | (with_reducible exact ih _ _ _)
      | (with_reducible exact LeO.refl _)
      | (with_reducible exact LeO.none _)
      | (with_reducible refine LeO.ite ?_ ?_)
      | exact ih _ _ _
      | exact LeO.none _
      | refine LeO.ite ?_ ?_

def ring_split.l0 : Nat → Int → List Int → Int → Option (List Int)
  | 0, _, _, _ => none
  | k + 1, n, out, d => if d = 0 then none else (if d ≤ wrap64 (Int.tdiv n d) then ((ring_take.l0 k d n out).bind fun p => ring_split.l0 k p.1 p.2 (wrap64 (d + 2))) else (if n > 1 then (if out.length < 17592186044416 then some (out ++ [n]) else none) else some out))
def ring_split.f (k : Nat) (a0 : Int) : Option (List Int) := (ring_take.l0 k 2 a0 []).bind fun p => ring_split.l0 k p.1 p.2 3
theorem ring_split.mono_l : ∀ k n out d, LeO (ring_split.l0 k n out d) (ring_split.l0 (k + 1) n out d)
  | 0 => fun _ _ _ r h => by simp [ring_split.l0] at h
  | k + 1 => by
    intro n out d
    have ih := ring_split.mono_l k
    unfold ring_split.l0
    repeat' first
      | (with_reducible exact ih _ _ _)
      | (with_reducible exact ring_take.mono_l _ _ _ _)
      | (with_reducible exact LeO.refl _)
      | (with_reducible exact LeO.none _)
      | (with_reducible refine LeO.ite ?_ ?_)
      | (with_reducible refine LeO.bind ?_ (fun _ => ?_))
theorem ring_split.mono : ∀ a0 k, LeO (ring_split.f k a0) (ring_split.f (k + 1) a0) := by
  intro a0 k
  unfold ring_split.f
  exact LeO.bind (ring_take.mono_l _ _ _ _) (fun _ => ring_split.mono_l _ _ _ _)
set_option maxHeartbeats 8000000 in
set_option maxRecDepth 100000 in
theorem ring_split.calls (k : Nat) (a0 : Int) (r : List Int) (w : World) (h : ring_split.f k a0 = some r) :
    Calls Try.prog 31 #[.int .i64 a0] w fun e w' => ∃ v0_ : Value, e = .returned (v0_) ∧ Kd.R (Kd.int .i64) 2 w' w.heap.size (fun _ => True) v0_ r ∧ Below w.heap.size w w' := by
  have hmf : ∀ (fn : Fn) (first cap : Array Value) (w : World), (Instr.makeFunc fn first cap).run Try.prog w = .ok (.func fn first cap) w := fun _ _ _ _ => rfl
  unfold ring_split.f at h
  obtain ⟨⟨n1, out1⟩, h1, h2⟩ := Option.bind_eq_some_iff.1 h
  have H1 := Aside0.mk h1
  have H2 := Aside0.mk h2
  clear h h1 h2
  go_enter Try.func31, Try.ntmps31
  have hbn0 : ((w.alloc (.cells #[.int .i64 a0] 2)).alloc (.cells #[.slice none 0 0] 32)).heap[w.heap.size]? = some (.cells #[.int .i64 a0] 2 (0, 0)) := blk_alloc (blk_new _ _) _
  have hbo0 : ((w.alloc (.cells #[.int .i64 a0] 2)).alloc (.cells #[.slice none 0 0] 32)).heap[w.heap.size + 1]? = some (.cells #[.slice none 0 0] 32 (0, 0)) := by simpa using heap_alloc_new (w.alloc (.cells #[.int .i64 a0] 2)) (.cells #[.slice none 0 0] 32)
  have HN0 := Aside0.mk hbn0
  have HO0 := Aside0.mk hbo0
  clear hbn0 hbo0
  go_wp2_with (go_at_call 36; refine (ring_take.calls k 2 a0 n1 [] out1 w.heap.size (w.heap.size + 1) w.heap.size _ _ H1.out (by omega) (by omega) (by omega) HN0.out HO0.out (Kd.R_nil _ _ _ _ _)).mono ?_; rintro e w1 ⟨rfl, v1, hn1, ho1, hr1, hb1⟩; have HN := Aside0.mk hn1; have HO := Aside0.mk ho1; have HR := Aside0.mk hr1; have HB := Aside0.mk hb1; clear hn1 ho1 hr1 hb1)
  have HB2 := Aside0.mk ((below_alloc (below_alloc (Below.refl w.heap.size w) (.cells #[.int .i64 a0] 2)) (.cells #[.slice none 0 0] 32)).trans HB.out)
  clear HB HN0 HO0
  go_loopg [5] k (fun kq v5 w' => ∃ (d_ n_ : Int) (out_ : List Int) (v_ : Value), v5 = .int .i64 d_ ∧ Aside0 (ring_split.l0 kq n_ out_ d_ = some r) ∧ Aside0 (kq ≤ k) ∧ Aside0 (w'.heap[w.heap.size]? = some (.cells #[.int .i64 n_] 2 (0, 0))) ∧ Aside0 (w'.heap[w.heap.size + 1]? = some (.cells #[v_] 32 (0, 0))) ∧ Aside0 (Kd.R (Kd.int .i64) 2 w' w.heap.size (fun k => k ≠ w.heap.size ∧ k ≠ w.heap.size + 1) v_ out_) ∧ Aside0 (Below w.heap.size w w'))
  case atStart => exact ⟨3, n1, out1, v1, rfl, H2, ⟨Nat.le_refl _⟩, HN, HO, HR, HB2⟩
  case round =>
    clear HN HO HR HB2 H1 H2
    obtain ⟨d_, n_, out_, v_, rfl, HK, HL, HN, HO, HR, HB⟩ := hrel
    cases gk with
    | zero => exact absurd HK.out (by simp [ring_split.l0])
    | succ k1 =>
      have H := HK.out
      clear HK
      simp only [ring_split.l0] at H
      have cn : wr.cell? ⟨w.heap.size, 0, none⟩ = some (.int .i64 n_) := (blk_cell HN.out 0).trans rfl
      by_cases c1 : d_ = 0
      · rw [if_pos c1] at H
        exact absurd H (by simp)
      · rw [if_neg c1] at H
        have c1b0 : (d_ == 0) = false := beq_eq_false_iff_ne.mpr c1
        have c1b1 : (d_ != 0) = true := bne_iff_ne.mpr c1
        by_cases c2 : d_ ≤ wrap64 (Int.tdiv n_ d_)
        · rw [if_pos c2] at H
          have c2b0 : decide (d_ ≤ wrap64 (Int.tdiv n_ d_)) = true := decide_eq_true c2
          clear c2
          obtain ⟨⟨n2, out2⟩, h1, h2⟩ := Option.bind_eq_some_iff.1 H
          have H1 := Aside0.mk h1
          have H2 := Aside0.mk h2
          clear H h1 h2
          go_wp2_with (go_at_call 36; refine (ring_take.calls k1 d_ n_ n2 out_ out2 w.heap.size (w.heap.size + 1) w.heap.size _ _ H1.out (by omega) (by omega) (by omega) HN.out HO.out HR.out).mono ?_; rintro e w2 ⟨rfl, v2, hn1, ho1, hr1, hb1⟩; have HN2 := Aside0.mk hn1; have HO2 := Aside0.mk ho1; have HR2 := Aside0.mk hr1; have HB2 := Aside0.mk hb1; clear hn1 ho1 hr1 hb1)
          go_roundg k1
          case measure => omega
          case rel => exact ⟨_, n2, out2, v2, rfl, H2, ⟨by have := HL.out; omega⟩, HN2, HO2, HR2, ⟨HB.out.trans HB2.out⟩⟩
        · rw [if_neg c2] at H
          have c2b0 : decide (d_ ≤ wrap64 (Int.tdiv n_ d_)) = false := decide_eq_false c2
          clear c2
          have co : wr.cell? ⟨w.heap.size + 1, 0, none⟩ = some v_ := (blk_cell HO.out 0).trans rfl
          obtain ⟨A, c, e_⟩ := Kd.R_slice HR.out
          subst e_
          by_cases c3 : n_ > 1
          · rw [if_pos c3] at H
            have c3b0 : decide (1 < n_) = true := decide_eq_true c3
            clear c3
            by_cases c4 : out_.length < 17592186044416
            · rw [if_pos c4] at H
              have H' := Aside0.mk (Option.some.inj H)
              have LM := Aside0.mk c4
              clear H c4
              have fo_ : wr.frozen? ⟨w.heap.size + 1, 0, none⟩ = false := blk_frozen HO.out 0
              go_wp2_with (first | ((with_reducible refine gate_builtin (b := .append) (xs := #[.tmp 21, .tmp 23]) rfl ?_); at_builtin; refine Kd.R_append (Kd.int .i64) (w0 := w) w.heap.size rfl (.tmp 21) (.tmp 23) 32 2 (.int .i64 0) 8 rfl Try.underlying32 ring_split.info rfl (by decide) (by omega) (.slice A out_.length c) out_ n_ [.int .i64 n_] (fun k => k ≠ w.heap.size ∧ k ≠ w.heap.size + 1) (fun _ => False) rfl rfl ?aP (fun _ hk => hk.elim) ?aF ?aO ?aB ?aS ?aL ?_; (case aP => exact rfl); (case aB => exact HB.out); (case aF => have := blk_lt HN.out; have := blk_lt HO.out; exact fun k hk => by constructor <;> omega); (case aO => exact HR.out); (case aS => exact below_size HB.out); (case aL => have := LM.out; omega); intro v3 w3 ho hb hg hat; obtain ⟨A3, c3, e3⟩ := Kd.R_slice ho; subst e3; have HO3 := Aside0.mk (blk_grown HO.out hg (fun e => (HR.out.1 _ e.symm).2 rfl)); have co3 := (blk_cell HO3.out 0).trans rfl; have fo3 := blk_frozen HO3.out 0; have HR3 := Aside0.mk ho; have HB3 := Aside0.mk hb; clear ho hb hg hat))
              go_ret
              have hR := HR3.out
              rw [List.length_append, List.length_singleton, H'.out] at hR
              exact ⟨_, rfl, Kd.R_mono (Kd.R_far hR (fun k hk => hk.2) _) (fun _ _ => trivial), below_set HB3.out (by omega)⟩
            · rw [if_neg c4] at H
              exact absurd H (by simp)
          · rw [if_neg c3] at H
            have c3b0 : decide (1 < n_) = false := decide_eq_false c3
            clear c3
            obtain rfl := Option.some.inj H
            go_wp2
            go_ret
            exact ⟨_, rfl, Kd.R_mono HR.out (fun _ _ => trivial), HB.out⟩

/-! ### ring_Factors: function 16 -/
def ring_Factors.f (k : Nat) (a0 : Int) : Option (List Int × Int) := if a0 < 1 then (some (([] : List Int), 2)) else (if a0 > 2000000000 then (some (([] : List Int), 2)) else ((ring_split.f k a0).bind fun t132 => (some (t132, 0))))
theorem ring_Factors.mono : ∀ a0 k, LeO (ring_Factors.f k a0) (ring_Factors.f (k + 1) a0) := by
  intro a0 k
  unfold ring_Factors.f
  repeat' first
      | (with_reducible exact ring_split.mono _ _)
      | (with_reducible exact LeO.refl _)
      | (with_reducible exact LeO.none _)
      | (with_reducible refine LeO.ite ?_ ?_)
      | (with_reducible refine LeO.bind ?_ (fun _ => ?_))
      | exact ring_split.mono _ _
      | exact LeO.none _
      | refine LeO.ite ?_ ?_
      | refine LeO.bind ?_ (fun _ => ?_)
set_option maxHeartbeats 8000000 in
set_option maxRecDepth 100000 in
theorem ring_Factors.calls (k : Nat) (a0 : Int) (r1 : List Int) (r2 : Int) (w : World) (h : ring_Factors.f k a0 = some (r1, r2)) :
    Calls Try.prog 16 #[.int .i64 a0] w fun e w' => ∃ v0_ : Value, e = .returned (.tuple #[v0_, .int .i64 r2]) ∧ Kd.R (Kd.int .i64) 2 w' w.heap.size (fun _ => True) v0_ r1 ∧ Below w.heap.size w w' := by
  have HB := Aside0.mk (Below.refl w.heap.size w)
  have H : (if a0 < 1 then (some (([] : List Int), 2)) else (if a0 > 2000000000 then (some (([] : List Int), 2)) else ((ring_split.f k a0).bind fun t132 => (some (t132, 0))))) = some (r1, r2) := h
  clear h
  by_cases c2 : a0 < 1
  · rw [if_pos c2] at H
    have c2b0 : decide (a0 < 1) = true := decide_eq_true c2
    clear c2
    simp only [Option.some.injEq, Prod.mk.injEq] at H
    obtain ⟨rfl, rfl⟩ := H
    go_enter Try.func16, Try.ntmps16
    go_wp2
    go_ret2
    exact ⟨_, by first | rfl | (simp [errW_none, errW_some] <;> rfl) | (simp [*, errW_none, errW_some] <;> rfl), by first | exact Kd.R_nil _ _ _ _ _ | exact Kd.N_nil _ _ _ _ _ | exact Kd.V_nil _ _ _ _ _ | exact Kd.Q_nil _ _ _ _ _ | exact Kd.S_nil _ _ _ _ _, by repeat (first | (with_reducible first | exact HB.out | apply below_alloc | apply pw_below_drewN | apply below_drew1) | exact HB.out)⟩
  rw [if_neg c2] at H
  have c2b0 : decide (a0 < 1) = false := decide_eq_false c2
  clear c2
  by_cases c3 : a0 > 2000000000
  · rw [if_pos c3] at H
    have c3b0 : decide (2000000000 < a0) = true := decide_eq_true c3
    clear c3
    simp only [Option.some.injEq, Prod.mk.injEq] at H
    obtain ⟨rfl, rfl⟩ := H
    go_enter Try.func16, Try.ntmps16
    go_wp2
    go_ret2
    exact ⟨_, by first | rfl | (simp [errW_none, errW_some] <;> rfl) | (simp [*, errW_none, errW_some] <;> rfl), by first | exact Kd.R_nil _ _ _ _ _ | exact Kd.N_nil _ _ _ _ _ | exact Kd.V_nil _ _ _ _ _ | exact Kd.Q_nil _ _ _ _ _ | exact Kd.S_nil _ _ _ _ _, by repeat (first | (with_reducible first | exact HB.out | apply below_alloc | apply pw_below_drewN | apply below_drew1) | exact HB.out)⟩
  rw [if_neg c3] at H
  have c3b0 : decide (2000000000 < a0) = false := decide_eq_false c3
  clear c3
  replace H := Option.bind_eq_some_iff.mp H
  obtain ⟨t132, A40, H⟩ := H
  replace H : (some (t132, 0)) = some (r1, r2) := H
  have A4 := Aside0.mk A40
  clear A40
  simp only [Option.some.injEq, Prod.mk.injEq] at H
  obtain ⟨rfl, rfl⟩ := H
  go_enter Try.func16, Try.ntmps16
  go_wp2_with (first | ((with_reducible refine gate_callee (f := 31) rfl ?_); refine goesL_ (some 11) rfl rfl Try.func31 (by kernel_rfl) rfl #[.int .i64 a0] rfl (by (try simp only [List.map_toArray, List.map_cons, List.map_nil]); first | done | rfl | (simp only [List.length_drop, List.length_take]; rfl)) ?_; (with_reducible refine (ring_split.calls k a0 t132 _ A4.out).mono ?_); rintro e w5 ⟨v133, rfl, ho0, hb⟩; refine ⟨_, rfl, ?_⟩; have n0_ := Aside0.mk (Kd.R_lower ho0 (below_size (by repeat (first | (with_reducible first | exact HB.out | apply below_alloc | apply pw_below_drewN | apply below_drew1) | exact HB.out)))); have n1_ := Aside0.mk (below_step (by repeat (first | (with_reducible first | exact HB.out | apply below_alloc | apply pw_below_drewN | apply below_drew1) | exact HB.out)) hb); clear HB; have HO134 := n0_; have HB := n1_; clear n0_ n1_; (try clear hb); (try clear hb2); (try clear hk); (try clear hi); (try clear ho0)))
  go_ret2
  exact ⟨_, by first | rfl | (simp [errW_none, errW_some] <;> rfl) | (simp [*, errW_none, errW_some] <;> rfl), by (with_reducible repeat (first | apply Kd.R_alloc | apply Kd.R_drewN | apply Kd.R_drew)); exact HO134.out, by repeat (first | (with_reducible first | exact HB.out | apply below_alloc | apply pw_below_drewN | apply below_drew1) | exact HB.out)⟩

/-! ### ring_order: function 32 -/
def ring_order.l0 : Nat → Int → Int → Int → List Int → Int → Int → Option (Int)
  | 0, _, _, _, _, _, _ => none
  | k + 1, x0, x1, x7, x12, x13, x14 => if x14 < x13 then (if 0 ≤ x14 then (if x14 < (x12.length : Int) then (if (rd x12 x14) = 0 then (none) else ((ring_power.f k x0 x1 (wrap64 (Int.tdiv x7 (rd x12 x14)))).bind fun t136 => (if t136 = 1 then (ring_order.l0 k x0 x1 (wrap64 (Int.tdiv x7 (rd x12 x14))) x12 x13 (wrap64 (x14 + 1))) else (ring_order.l0 k x0 x1 x7 x12 x13 (wrap64 (x14 + 1)))))) else (none)) else (none)) else (some x7)
def ring_order.f (k : Nat) (a0 : Int) (a1 : Int) (l2 : List Int) : Option (Int) := ring_order.l0 k a0 a1 (wrap64 (a0 - 1)) l2 (l2.length : Int) 0
theorem ring_order.mono_l : ∀ k, (∀ y0 y1 y2 y3 y4 y5, LeO (ring_order.l0 k y0 y1 y2 y3 y4 y5) (ring_order.l0 (k + 1) y0 y1 y2 y3 y4 y5))
  | 0 => fun _ _ _ _ _ _ r h => by simp [ring_order.l0] at h
  | k + 1 => by
    have ih0 := ring_order.mono_l k
    · intro y0 y1 y2 y3 y4 y5
      unfold ring_order.l0
      repeat' first
      | (with_reducible exact ih0 _ _ _ _ _ _)
      | (with_reducible exact ring_power.mono _ _ _ _)
      | (with_reducible exact LeO.refl _)
      | (with_reducible exact LeO.none _)
      | (with_reducible refine LeO.ite ?_ ?_)
      | (with_reducible refine LeO.bind ?_ (fun _ => ?_))
      | exact ih0 _ _ _ _ _ _
      | exact ring_power.mono _ _ _ _
      | exact LeO.none _
      | refine LeO.ite ?_ ?_
      | refine LeO.bind ?_ (fun _ => ?_)
theorem ring_order.mono : ∀ a0 a1 a2 k, LeO (ring_order.f k a0 a1 a2) (ring_order.f (k + 1) a0 a1 a2) := by
  intro a0 a1 a2 k
  have ih0 := ring_order.mono_l k
  unfold ring_order.f
  repeat' first
      | (with_reducible exact ih0 _ _ _ _ _ _)
      | (with_reducible exact ring_power.mono _ _ _ _)
      | (with_reducible exact LeO.refl _)
      | (with_reducible exact LeO.none _)
      | (with_reducible refine LeO.ite ?_ ?_)
      | (with_reducible refine LeO.bind ?_ (fun _ => ?_))
      | exact ih0 _ _ _ _ _ _
      | exact ring_power.mono _ _ _ _
      | exact LeO.none _
      | refine LeO.ite ?_ ?_
      | refine LeO.bind ?_ (fun _ => ?_)
set_option maxHeartbeats 8000000 in
set_option maxRecDepth 100000 in
theorem ring_order.calls (k : Nat) (a0 : Int) (a1 : Int) (A2 : Option Addr) (c2 : Nat) (l2 : List Int) (r : Int) (w : World) (hr2 : Kd.C (Kd.int .i64) w A2 l2.length l2) (hc2 : l2.length ≤ c2) (h : ring_order.f k a0 a1 l2 = some r) :
    Calls Try.prog 32 #[.int .i64 a0, .int .i64 a1, .slice A2 l2.length c2] w fun e w' => e = .returned (.int .i64 r) ∧ Drawn0 w w' := by
  have HR2 := Aside0.mk hr2
  have HC2 := Aside0.mk hc2
  clear hr2 hc2
  have H : (ring_order.l0 k a0 a1 (wrap64 (a0 - 1)) l2 (l2.length : Int) 0) = some r := h
  clear h
  have H' := Aside0.mk H
  clear H
  go_enter Try.func32, Try.ntmps32
  go_wp2
  go_loopg [7, 14] k (fun kq v7 v14 w' => ∃ (x7_1 : Int) (x14_1 : Int), v7 = .int .i64 x7_1 ∧ v14 = .int .i64 x14_1 ∧ Aside0 (ring_order.l0 kq a0 a1 x7_1 l2 (l2.length : Int) x14_1 = some r) ∧ Aside0 (kq ≤ k) ∧ Drawn0 w w')
  case atStart => exact ⟨(wrap64 (a0 - 1)), (0), (by first | rfl | (simp; done) | (simp [*]; done)), (by first | rfl | (simp; done) | (simp [*]; done)), H', ⟨Nat.le_refl _⟩, by repeat (first | exact Drawn0.refl _ | apply Drawn0.step)⟩
  case round =>
    clear H'
    try clear c2
    try clear p2
    try clear c3
    obtain ⟨x7_1, x14_1, rfl, rfl, HA, HK1, ⟨m1, rfl⟩⟩ := hrel
    cases gk with
    | zero => exact absurd HA.out (by simp [ring_order.l0])
    | succ k1 =>
      have H := HA.out
      clear HA
      simp only [ring_order.l0] at H
      by_cases c4 : x14_1 < (l2.length : Int)
      rotate_left
      · rw [if_neg c4] at H
        have c4b0 : decide (x14_1 < (l2.length : Int)) = false := decide_eq_false c4
        clear c4
        obtain rfl := Option.some.inj H
        go_wp2
        go_ret
        exact ⟨by first | rfl | (simp; done) | (simp [*]; done), by repeat (first | exact Drawn0.refl _ | apply Drawn0.step)⟩
      rw [if_pos c4] at H
      have c4b0 : decide (x14_1 < (l2.length : Int)) = true := decide_eq_true c4
      clear c4
      by_cases c5 : 0 ≤ x14_1
      rotate_left
      · rw [if_neg c5] at H
        exact absurd H (by simp)
      rw [if_pos c5] at H
      have c5b0 : decide (0 ≤ x14_1) = true := decide_eq_true c5
      clear c5
      by_cases c6 : x14_1 < (l2.length : Int)
      rotate_left
      · rw [if_neg c6] at H
        exact absurd H (by simp)
      rw [if_pos c6] at H
      have c6b0 : decide (x14_1 < (l2.length : Int)) = true := decide_eq_true c6
      clear c6
      by_cases c7 : (rd l2 x14_1) = 0
      · rw [if_pos c7] at H
        exact absurd H (by simp)
      rw [if_neg c7] at H
      have c7b0 : ((rd l2 x14_1) == 0) = false := beq_eq_false_iff_ne.mpr c7
      have c7b1 : ((rd l2 x14_1) != 0) = true := bne_iff_ne.mpr c7
      replace H := Option.bind_eq_some_iff.mp H
      obtain ⟨t136, A80, H⟩ := H
      replace H : (if t136 = 1 then (ring_order.l0 k1 a0 a1 (wrap64 (Int.tdiv x7_1 (rd l2 x14_1))) l2 (l2.length : Int) (wrap64 (x14_1 + 1))) else (ring_order.l0 k1 a0 a1 x7_1 l2 (l2.length : Int) (wrap64 (x14_1 + 1)))) = some r := H
      have A8 := Aside0.mk A80
      clear A80
      by_cases c9 : t136 = 1
      rotate_left
      · rw [if_neg c9] at H
        have c9b0 : (t136 == 1) = false := beq_eq_false_iff_ne.mpr c9
        have c9b1 : (t136 != 1) = true := bne_iff_ne.mpr c9
        have H' := Aside0.mk H
        clear H
        have p135 : 0 ≤ (x14_1 : Int) := of_decide_eq_true (by first | (with_reducible assumption) | assumption)
        have q135 : x14_1 < (l2.length : Int) := of_decide_eq_true (by first | (with_reducible assumption) | assumption)
        obtain ⟨ad135, e135, hx135_0⟩ := Kd.at_int HR2.out x14_1 p135 q135
        cases e135
        replace p135 := eq_true p135
        replace q135 := eq_true q135
        go_wp2_with (first | ((with_reducible refine gate_callee (f := 30) rfl ?_); refine goesL_ (some 23) rfl rfl Try.func30 (by kernel_rfl) rfl #[.int .i64 a0, .int .i64 a1, .int .i64 (wrap64 (Int.tdiv x7_1 (rd l2 x14_1)))] rfl (by (try simp only [List.map_toArray, List.map_cons, List.map_nil]); first | done | rfl | (simp only [List.length_drop, List.length_take]; rfl)) ?_; (with_reducible refine (ring_power.calls k1 a0 a1 (wrap64 (Int.tdiv x7_1 (rd l2 x14_1))) t136 _ A8.out).mono ?_); rintro e w' ⟨rfl, ⟨nd, rfl⟩⟩; refine ⟨_, rfl, ?_⟩))
        go_roundg k1
        case measure => have := HK1.out; omega
        case rel => exact ⟨(x7_1), (wrap64 (x14_1 + 1)), (by first | rfl | (simp; done) | (simp [*]; done)), (by first | rfl | (simp; done) | (simp [*]; done)), H', ⟨by have := HK1.out; omega⟩, by repeat (first | exact Drawn0.refl _ | apply Drawn0.step)⟩
      rw [if_pos c9] at H
      have c9b0 : (t136 == 1) = true := beq_iff_eq.mpr c9
      have c9b1 : (t136 != 1) = false := bne_eq_false_iff_eq.mpr c9
      clear c9
      have H' := Aside0.mk H
      clear H
      have p135 : 0 ≤ (x14_1 : Int) := of_decide_eq_true (by first | (with_reducible assumption) | assumption)
      have q135 : x14_1 < (l2.length : Int) := of_decide_eq_true (by first | (with_reducible assumption) | assumption)
      obtain ⟨ad135, e135, hx135_0⟩ := Kd.at_int HR2.out x14_1 p135 q135
      cases e135
      replace p135 := eq_true p135
      replace q135 := eq_true q135
      go_wp2_with (first | ((with_reducible refine gate_callee (f := 30) rfl ?_); refine goesL_ (some 23) rfl rfl Try.func30 (by kernel_rfl) rfl #[.int .i64 a0, .int .i64 a1, .int .i64 (wrap64 (Int.tdiv x7_1 (rd l2 x14_1)))] rfl (by (try simp only [List.map_toArray, List.map_cons, List.map_nil]); first | done | rfl | (simp only [List.length_drop, List.length_take]; rfl)) ?_; (with_reducible refine (ring_power.calls k1 a0 a1 (wrap64 (Int.tdiv x7_1 (rd l2 x14_1))) t136 _ A8.out).mono ?_); rintro e w' ⟨rfl, ⟨nd, rfl⟩⟩; refine ⟨_, rfl, ?_⟩))
      go_roundg k1
      case measure => have := HK1.out; omega
      case rel => exact ⟨(wrap64 (Int.tdiv x7_1 (rd l2 x14_1))), (wrap64 (x14_1 + 1)), (by first | rfl | (simp; done) | (simp [*]; done)), (by first | rfl | (simp; done) | (simp [*]; done)), H', ⟨by have := HK1.out; omega⟩, by repeat (first | exact Drawn0.refl _ | apply Drawn0.step)⟩

end Go.Proofs.Ytehbmpdmdfiagaa.PAll
