-- Written by a program of this session, after the kit's print
import Derived.Test.YtehbmpdmdfiagaaPAllx0
import Derived.Test.YtehbmpdmdfiagaaPAllx1
import Derived.Test.YtehbmpdmdfiagaaPAllx2
import Derived.Test.YtehbmpdmdfiagaaPAllx4
namespace Go.Proofs.Ytehbmpdmdfiagaa.PAll
open Go.RowKit Go.Proofs.YtehbmpdmdfiagaaW.PrintWords Go.Proofs.YtehbmpdmdfiagaaW.PrintLast Go.Proofs.YtehbmpdmdfiagaaW.PrintMore
attribute [local go_sem] max2_int min2_int max_two min_two max_three min_three max_four min_four   -- for this text's walks alone
set_option linter.unusedVariables false
set_option linter.unusedSimpArgs false

/-! ### fringelaw10_RingField: function 9 -/
mutual
def fringelaw10_RingField.j0 : Nat → Int → Int → Int → Int → Bool → Option (Bool)
  | 0, _, _, _, _, _ => none
  | k + 1, x0, x1, x2, x3, x40 => if x40 = true then ((fringelaw10_alive.f).bind fun t359 => (some t359)) else ((ring_Inv.f k x0 x1).bind fun bt360 => (if x1 = 0 then (if bt360.2 = 18 then (fringelaw10_RingField.j1 k x0 x1 x2 x3) else (some false)) else ((ring_Inv.f k x0 bt360.1).bind fun bt362 => (if bt360.2 = 0 then (if bt360.1 < 1 then (some false) else (if bt360.1 ≥ x0 then (some false) else (if x0 = 0 then (none) else (if (Int.tmod (wrap64 (x1 * bt360.1)) x0) = 1 then (if bt362.2 = 0 then (if bt362.1 = x1 then (fringelaw10_RingField.j1 k x0 x1 x2 x3) else (some false)) else (some false)) else (some false))))) else (some false)))))
def fringelaw10_RingField.j1 : Nat → Int → Int → Int → Int → Option (Bool)
  | 0, _, _, _, _ => none
  | k + 1, x0, x1, x2, x3 => (ring_Pow.f k x0 x1 x2).bind fun bt364 => ((ring_Pow.f k x0 x1 x3).bind fun bt366 => ((ring_Pow.f k x0 x1 (wrap64 (x2 + x3))).bind fun bt368 => ((ring_Pow.f k x0 x1 x0).bind fun bt370 => (if bt364.2 = 0 then (if bt366.2 = 0 then (if bt368.2 = 0 then (if bt364.1 ≥ 0 then (if bt364.1 < x0 then (if bt366.1 ≥ 0 then (if bt366.1 < x0 then (if x0 = 0 then (none) else (if (Int.tmod (wrap64 (bt364.1 * bt366.1)) x0) = bt368.1 then (if bt370.2 = 0 then (if bt370.1 = x1 then ((fringelaw10_alive.f).bind fun t372 => (some t372)) else (some false)) else (some false)) else (some false))) else (some false)) else (some false)) else (some false)) else (some false)) else (some false)) else (some false)) else (some false)))))
end
def fringelaw10_RingField.f (k : Nat) (a0 : Int) (a1 : Int) (a2 : Int) (a3 : Int) : Option (Bool) := (fringeref10_Both.f k a0 a1).bind fun t358 => (if t358 = 0 then (if a2 < 0 then (fringelaw10_RingField.j0 k a0 a1 a2 a3 true) else (if a3 < 0 then (fringelaw10_RingField.j0 k a0 a1 a2 a3 true) else (if a2 > 1000000000 then (fringelaw10_RingField.j0 k a0 a1 a2 a3 true) else (fringelaw10_RingField.j0 k a0 a1 a2 a3 (decide (a3 > 1000000000)))))) else (fringelaw10_RingField.j0 k a0 a1 a2 a3 true))
theorem fringelaw10_RingField.mono_l : ∀ k, (∀ y0 y1 y2 y3 y4, LeO (fringelaw10_RingField.j0 k y0 y1 y2 y3 y4) (fringelaw10_RingField.j0 (k + 1) y0 y1 y2 y3 y4)) ∧ (∀ y0 y1 y2 y3, LeO (fringelaw10_RingField.j1 k y0 y1 y2 y3) (fringelaw10_RingField.j1 (k + 1) y0 y1 y2 y3))
  | 0 => ⟨fun _ _ _ _ _ r h => by simp [fringelaw10_RingField.j0] at h, fun _ _ _ _ r h => by simp [fringelaw10_RingField.j1] at h⟩
  | k + 1 => by
    obtain ⟨ih0, ih1⟩ := fringelaw10_RingField.mono_l k
    refine ⟨?_, ?_⟩
    · intro y0 y1 y2 y3 y4
      unfold fringelaw10_RingField.j0
      repeat' first
      | (with_reducible exact ih0 _ _ _ _ _)
      | (with_reducible exact ih1 _ _ _ _)
      | (with_reducible exact fringeref10_Both.mono _ _ _)
      | (with_reducible exact ring_Inv.mono _ _ _)
      | (with_reducible exact ring_Pow.mono _ _ _ _)
      | (with_reducible exact LeO.refl _)
      | (with_reducible exact LeO.none _)
      | (with_reducible refine LeO.ite ?_ ?_)
      | (with_reducible refine LeO.bind ?_ (fun _ => ?_))
      | exact ih0 _ _ _ _ _
      | exact ih1 _ _ _ _
      | exact fringeref10_Both.mono _ _ _
      | exact ring_Inv.mono _ _ _
      | exact ring_Pow.mono _ _ _ _
      | exact LeO.none _
      | refine LeO.ite ?_ ?_
      | refine LeO.bind ?_ (fun _ => ?_)
    · intro y0 y1 y2 y3
      unfold fringelaw10_RingField.j1
      repeat' first
      | (with_reducible exact ih0 _ _ _ _ _)
      | (with_reducible exact ih1 _ _ _ _)
      | (with_reducible exact fringeref10_Both.mono _ _ _)
      | (with_reducible exact ring_Inv.mono _ _ _)
      | (with_reducible exact ring_Pow.mono _ _ _ _)
      | (with_reducible exact LeO.refl _)
      | (with_reducible exact LeO.none _)
      | (with_reducible refine LeO.ite ?_ ?_)
      | (with_reducible refine LeO.bind ?_ (fun _ => ?_))
      | exact ih0 _ _ _ _ _
      | exact ih1 _ _ _ _
      | exact fringeref10_Both.mono _ _ _
      | exact ring_Inv.mono _ _ _
      | exact ring_Pow.mono _ _ _ _
      | exact LeO.none _
      | refine LeO.ite ?_ ?_
      | refine LeO.bind ?_ (fun _ => ?_)
theorem fringelaw10_RingField.mono : ∀ a0 a1 a2 a3 k, LeO (fringelaw10_RingField.f k a0 a1 a2 a3) (fringelaw10_RingField.f (k + 1) a0 a1 a2 a3) := by
  intro a0 a1 a2 a3 k
  obtain ⟨ih0, ih1⟩ := fringelaw10_RingField.mono_l k
  unfold fringelaw10_RingField.f
  repeat' first
      | (with_reducible exact ih0 _ _ _ _ _)
      | (with_reducible exact ih1 _ _ _ _)
      | (with_reducible exact fringeref10_Both.mono _ _ _)
      | (with_reducible exact ring_Inv.mono _ _ _)
      | (with_reducible exact ring_Pow.mono _ _ _ _)
      | (with_reducible exact LeO.refl _)
      | (with_reducible exact LeO.none _)
      | (with_reducible refine LeO.ite ?_ ?_)
      | (with_reducible refine LeO.bind ?_ (fun _ => ?_))
      | exact ih0 _ _ _ _ _
      | exact ih1 _ _ _ _
      | exact fringeref10_Both.mono _ _ _
      | exact ring_Inv.mono _ _ _
      | exact ring_Pow.mono _ _ _ _
      | exact LeO.none _
      | refine LeO.ite ?_ ?_
      | refine LeO.bind ?_ (fun _ => ?_)
set_option maxHeartbeats 8000000 in
set_option maxRecDepth 100000 in
theorem fringelaw10_RingField.calls (k : Nat) (a0 : Int) (a1 : Int) (a2 : Int) (a3 : Int) (r : Bool) (w : World) (hrt : r = true) (h : fringelaw10_RingField.f k a0 a1 a2 a3 = some r) :
    Calls Try.prog 9 #[.int .i64 a0, .int .i64 a1, .int .i64 a2, .int .i64 a3] w fun e w' => e = .returned (.bool r) ∧ Below w.heap.size w w' := by
  have HB := Aside0.mk (Below.refl w.heap.size w)
  have HRT := Aside0.mk hrt
  clear hrt
  have H : ((fringeref10_Both.f k a0 a1).bind fun t358 => (if t358 = 0 then (if a2 < 0 then (fringelaw10_RingField.j0 k a0 a1 a2 a3 true) else (if a3 < 0 then (fringelaw10_RingField.j0 k a0 a1 a2 a3 true) else (if a2 > 1000000000 then (fringelaw10_RingField.j0 k a0 a1 a2 a3 true) else (fringelaw10_RingField.j0 k a0 a1 a2 a3 (decide (a3 > 1000000000)))))) else (fringelaw10_RingField.j0 k a0 a1 a2 a3 true))) = some r := h
  clear h
  have HC5 := Aside0.mk H
  clear H
  go_enter Try.func9, Try.ntmps9
  go_upto_region 1 with (fail)
  go_cut [40] (fun v40 wc => ∃ (kq : Nat) (x40_4 : Bool), v40 = .bool x40_4 ∧ Aside0 (fringelaw10_RingField.j0 kq a0 a1 a2 a3 x40_4 = some r) ∧ Aside0 (kq ≤ k) ∧ Aside0 (Below w.heap.size w wc))
  case first =>
    have H := HC5.out
    clear HC5
    replace H := Option.bind_eq_some_iff.mp H
    obtain ⟨t358, A60, H⟩ := H
    replace H : (if t358 = 0 then (if a2 < 0 then (fringelaw10_RingField.j0 k a0 a1 a2 a3 true) else (if a3 < 0 then (fringelaw10_RingField.j0 k a0 a1 a2 a3 true) else (if a2 > 1000000000 then (fringelaw10_RingField.j0 k a0 a1 a2 a3 true) else (fringelaw10_RingField.j0 k a0 a1 a2 a3 (decide (a3 > 1000000000)))))) else (fringelaw10_RingField.j0 k a0 a1 a2 a3 true)) = some r := H
    have A6 := Aside0.mk A60
    clear A60
    by_cases c7 : t358 = 0
    · rw [if_pos c7] at H
      have c7b0 : (t358 == 0) = true := beq_iff_eq.mpr c7
      have c7b1 : (t358 != 0) = false := bne_eq_false_iff_eq.mpr c7
      clear c7
      (first | rw [c7b0] | (simp only [i64_w, i32_w]; rw [c7b0]) | skip)
      by_cases c8 : a2 < 0
      · rw [if_pos c8] at H
        have c8b0 : decide (a2 < 0) = true := decide_eq_true c8
        clear c8
        have H' := Aside0.mk H
        clear H
        go_wp2_with (first | ((with_reducible refine gate_callee (f := 25) rfl ?_); refine goesL_ (some 23) rfl rfl Try.func25 (by kernel_rfl) rfl #[.int .i64 a0, .int .i64 a1] rfl (by (try simp only [List.map_toArray, List.map_cons, List.map_nil]); first | done | rfl | (simp only [List.length_drop, List.length_take]; rfl)) ?_; (with_reducible refine (fringeref10_Both.calls k a0 a1 t358 _ A6.out).mono ?_); rintro e w9 ⟨rfl, hb⟩; refine ⟨_, rfl, ?_⟩; have n0_ := Aside0.mk (below_step (by repeat (first | (with_reducible first | exact HB.out | apply below_alloc | apply pw_below_drewN | apply below_drew1) | exact HB.out)) hb); clear HB; have HB := n0_; clear n0_; (try clear hb); (try clear hb2); (try clear hk); (try clear hi)))
        go_meet
        case rel => exact ⟨_, (true), (by first | rfl | (simp; done) | (simp [*]; done)), H', ⟨by first | omega | exact Nat.le_refl _⟩, ⟨by repeat (first | (with_reducible first | exact HB.out | apply below_alloc | apply pw_below_drewN | apply below_drew1) | exact HB.out)⟩⟩
      · rw [if_neg c8] at H
        have c8b0 : decide (a2 < 0) = false := decide_eq_false c8
        clear c8
        by_cases c10 : a3 < 0
        · rw [if_pos c10] at H
          have c10b0 : decide (a3 < 0) = true := decide_eq_true c10
          clear c10
          have H' := Aside0.mk H
          clear H
          go_wp2_with (first | ((with_reducible refine gate_callee (f := 25) rfl ?_); refine goesL_ (some 23) rfl rfl Try.func25 (by kernel_rfl) rfl #[.int .i64 a0, .int .i64 a1] rfl (by (try simp only [List.map_toArray, List.map_cons, List.map_nil]); first | done | rfl | (simp only [List.length_drop, List.length_take]; rfl)) ?_; (with_reducible refine (fringeref10_Both.calls k a0 a1 t358 _ A6.out).mono ?_); rintro e w11 ⟨rfl, hb⟩; refine ⟨_, rfl, ?_⟩; have n0_ := Aside0.mk (below_step (by repeat (first | (with_reducible first | exact HB.out | apply below_alloc | apply pw_below_drewN | apply below_drew1) | exact HB.out)) hb); clear HB; have HB := n0_; clear n0_; (try clear hb); (try clear hb2); (try clear hk); (try clear hi)))
          go_meet
          case rel => exact ⟨_, (true), (by first | rfl | (simp; done) | (simp [*]; done)), H', ⟨by first | omega | exact Nat.le_refl _⟩, ⟨by repeat (first | (with_reducible first | exact HB.out | apply below_alloc | apply pw_below_drewN | apply below_drew1) | exact HB.out)⟩⟩
        · rw [if_neg c10] at H
          have c10b0 : decide (a3 < 0) = false := decide_eq_false c10
          clear c10
          by_cases c12 : a2 > 1000000000
          · rw [if_pos c12] at H
            have c12b0 : decide (1000000000 < a2) = true := decide_eq_true c12
            clear c12
            have H' := Aside0.mk H
            clear H
            go_wp2_with (first | ((with_reducible refine gate_callee (f := 25) rfl ?_); refine goesL_ (some 23) rfl rfl Try.func25 (by kernel_rfl) rfl #[.int .i64 a0, .int .i64 a1] rfl (by (try simp only [List.map_toArray, List.map_cons, List.map_nil]); first | done | rfl | (simp only [List.length_drop, List.length_take]; rfl)) ?_; (with_reducible refine (fringeref10_Both.calls k a0 a1 t358 _ A6.out).mono ?_); rintro e w13 ⟨rfl, hb⟩; refine ⟨_, rfl, ?_⟩; have n0_ := Aside0.mk (below_step (by repeat (first | (with_reducible first | exact HB.out | apply below_alloc | apply pw_below_drewN | apply below_drew1) | exact HB.out)) hb); clear HB; have HB := n0_; clear n0_; (try clear hb); (try clear hb2); (try clear hk); (try clear hi)))
            go_meet
            case rel => exact ⟨_, (true), (by first | rfl | (simp; done) | (simp [*]; done)), H', ⟨by first | omega | exact Nat.le_refl _⟩, ⟨by repeat (first | (with_reducible first | exact HB.out | apply below_alloc | apply pw_below_drewN | apply below_drew1) | exact HB.out)⟩⟩
          · rw [if_neg c12] at H
            have c12b0 : decide (1000000000 < a2) = false := decide_eq_false c12
            clear c12
            have H' := Aside0.mk H
            clear H
            go_wp2_with (first | ((with_reducible refine gate_callee (f := 25) rfl ?_); refine goesL_ (some 23) rfl rfl Try.func25 (by kernel_rfl) rfl #[.int .i64 a0, .int .i64 a1] rfl (by (try simp only [List.map_toArray, List.map_cons, List.map_nil]); first | done | rfl | (simp only [List.length_drop, List.length_take]; rfl)) ?_; (with_reducible refine (fringeref10_Both.calls k a0 a1 t358 _ A6.out).mono ?_); rintro e w14 ⟨rfl, hb⟩; refine ⟨_, rfl, ?_⟩; have n0_ := Aside0.mk (below_step (by repeat (first | (with_reducible first | exact HB.out | apply below_alloc | apply pw_below_drewN | apply below_drew1) | exact HB.out)) hb); clear HB; have HB := n0_; clear n0_; (try clear hb); (try clear hb2); (try clear hk); (try clear hi)))
            go_meet
            case rel => exact ⟨_, (decide (a3 > 1000000000)), (by first | rfl | (simp; done) | (simp [*]; done)), H', ⟨by first | omega | exact Nat.le_refl _⟩, ⟨by repeat (first | (with_reducible first | exact HB.out | apply below_alloc | apply pw_below_drewN | apply below_drew1) | exact HB.out)⟩⟩
    · rw [if_neg c7] at H
      have c7b0 : (t358 == 0) = false := beq_eq_false_iff_ne.mpr c7
      have c7b1 : (t358 != 0) = true := bne_iff_ne.mpr c7
      (first | rw [c7b0] | (simp only [i64_w, i32_w]; rw [c7b0]) | skip)
      have H' := Aside0.mk H
      clear H
      go_wp2_with (first | ((with_reducible refine gate_callee (f := 25) rfl ?_); refine goesL_ (some 23) rfl rfl Try.func25 (by kernel_rfl) rfl #[.int .i64 a0, .int .i64 a1] rfl (by (try simp only [List.map_toArray, List.map_cons, List.map_nil]); first | done | rfl | (simp only [List.length_drop, List.length_take]; rfl)) ?_; (with_reducible refine (fringeref10_Both.calls k a0 a1 t358 _ A6.out).mono ?_); rintro e w15 ⟨rfl, hb⟩; refine ⟨_, rfl, ?_⟩; have n0_ := Aside0.mk (below_step (by repeat (first | (with_reducible first | exact HB.out | apply below_alloc | apply pw_below_drewN | apply below_drew1) | exact HB.out)) hb); clear HB; have HB := n0_; clear n0_; (try clear hb); (try clear hb2); (try clear hk); (try clear hi)))
      go_meet
      case rel => exact ⟨_, (true), (by first | rfl | (simp; done) | (simp [*]; done)), H', ⟨by first | omega | exact Nat.le_refl _⟩, ⟨by repeat (first | (with_reducible first | exact HB.out | apply below_alloc | apply pw_below_drewN | apply below_drew1) | exact HB.out)⟩⟩
  case rest =>
    clear HC5
    try clear c1
    try clear c2
    try clear p2
    try clear c7
    try clear c7b0
    try clear c7b1
    try clear c8
    try clear c8b0
    try clear c9
    try clear c10
    try clear c10b0
    try clear c12
    try clear c12b0
    obtain ⟨kq, x40_4, rfl, HA, HJ4, HB⟩ := hcut
    cases kq with
    | zero => exact absurd HA.out (by simp [fringelaw10_RingField.j0])
    | succ kj4 =>
      have H := HA.out
      clear HA
      simp only [fringelaw10_RingField.j0] at H
      by_cases c16 : x40_4 = true
      · subst c16
        have H1 : ((fringelaw10_alive.f).bind fun t359 => (some t359)) = some r := by rw [if_pos rfl] at H; exact H
        clear H
        have H := H1
        clear H1
        replace H := Option.bind_eq_some_iff.mp H
        obtain ⟨t359, A170, H⟩ := H
        replace H : (some t359) = some r := H
        have A17 := Aside0.mk A170
        clear A170
        obtain rfl := Option.some.inj H
        go_wp2_with (first | ((with_reducible refine gate_callee (f := 26) rfl ?_); refine goesL_ (some 41) rfl rfl Try.func26 (by kernel_rfl) rfl #[] rfl (by (try simp only [List.map_toArray, List.map_cons, List.map_nil]); first | done | rfl | (simp only [List.length_drop, List.length_take]; rfl)) ?_; (with_reducible refine (fringelaw10_alive.calls  t359 _ A17.out).mono ?_); rintro e w18 ⟨rfl, hb⟩; refine ⟨_, rfl, ?_⟩; have n0_ := Aside0.mk (below_step (by repeat (first | (with_reducible first | exact HB.out | apply below_alloc | apply pw_below_drewN | apply below_drew1) | exact HB.out)) hb); clear HB; have HB := n0_; clear n0_; (try clear hb); (try clear hb2); (try clear hk); (try clear hi)))
        go_ret
        exact ⟨by first | rfl | (simp [errW_none, errW_some] <;> rfl) | (simp [*, errW_none, errW_some] <;> rfl), by repeat (first | (with_reducible first | exact HB.out | apply below_alloc | apply pw_below_drewN | apply below_drew1) | exact HB.out)⟩
      · replace c16 := Bool.eq_false_iff.mpr c16
        subst c16
        have H1 : ((ring_Inv.f kj4 a0 a1).bind fun bt360 => (if a1 = 0 then (if bt360.2 = 18 then (fringelaw10_RingField.j1 kj4 a0 a1 a2 a3) else (some false)) else ((ring_Inv.f kj4 a0 bt360.1).bind fun bt362 => (if bt360.2 = 0 then (if bt360.1 < 1 then (some false) else (if bt360.1 ≥ a0 then (some false) else (if a0 = 0 then (none) else (if (Int.tmod (wrap64 (a1 * bt360.1)) a0) = 1 then (if bt362.2 = 0 then (if bt362.1 = a1 then (fringelaw10_RingField.j1 kj4 a0 a1 a2 a3) else (some false)) else (some false)) else (some false))))) else (some false))))) = some r := by rw [if_neg (show ¬ (false = true) by decide)] at H; exact H
        clear H
        have H := H1
        clear H1
        replace H := Option.bind_eq_some_iff.mp H
        obtain ⟨⟨t360, t361⟩, A190, H⟩ := H
        replace H : (if a1 = 0 then (if t361 = 18 then (fringelaw10_RingField.j1 kj4 a0 a1 a2 a3) else (some false)) else ((ring_Inv.f kj4 a0 t360).bind fun bt362 => (if t361 = 0 then (if t360 < 1 then (some false) else (if t360 ≥ a0 then (some false) else (if a0 = 0 then (none) else (if (Int.tmod (wrap64 (a1 * t360)) a0) = 1 then (if bt362.2 = 0 then (if bt362.1 = a1 then (fringelaw10_RingField.j1 kj4 a0 a1 a2 a3) else (some false)) else (some false)) else (some false))))) else (some false)))) = some r := H
        have A19 := Aside0.mk A190
        clear A190
        have HC20 := Aside0.mk H
        clear H
        go_upto_if 49 with (first | ((with_reducible refine gate_callee (f := 12) rfl ?_); refine goesL_ (some 45) rfl rfl Try.func12 (by kernel_rfl) rfl #[.int .i64 a0, .int .i64 a1] rfl (by (try simp only [List.map_toArray, List.map_cons, List.map_nil]); first | done | rfl | (simp only [List.length_drop, List.length_take]; rfl)) ?_; (with_reducible refine (ring_Inv.calls kj4 a0 a1 t360 t361 _ A19.out).mono ?_); rintro e w' ⟨rfl, ⟨nd, rfl⟩⟩; refine ⟨_, rfl, ?_⟩))
        (try simp only [Act.put, List.setIfInBounds_toArray, List.set_cons_zero, List.set_cons_succ])
        go_cut [] (fun wc => ∃ (kq : Nat), Aside0 (fringelaw10_RingField.j1 kq a0 a1 a2 a3 = some r) ∧ Aside0 (kq ≤ kj4) ∧ Aside0 (Below w.heap.size w wc))
        case first =>
          have H := HC20.out
          clear HC20
          by_cases c21 : a1 = 0
          · rw [if_pos c21] at H
            have c21b0 : (a1 == 0) = true := beq_iff_eq.mpr c21
            have c21b1 : (a1 != 0) = false := bne_eq_false_iff_eq.mpr c21
            clear c21
            (first | rw [c21b0] | (simp only [i64_w, i32_w]; rw [c21b0]) | skip)
            by_cases c22 : t361 = 18
            · rw [if_pos c22] at H
              have c22b0 : (t361 == 18) = true := beq_iff_eq.mpr c22
              have c22b1 : (t361 != 18) = false := bne_eq_false_iff_eq.mpr c22
              clear c22
              have H' := Aside0.mk H
              clear H
              go_wp2
              go_meet
              case rel => exact ⟨_, H', ⟨by have := HJ4.out; first | omega | exact Nat.le_refl _⟩, ⟨by repeat (first | (with_reducible first | exact HB.out | apply below_alloc | apply pw_below_drewN | apply below_drew1) | exact HB.out)⟩⟩
            · rw [if_neg c22] at H
              have c22b0 : (t361 == 18) = false := beq_eq_false_iff_ne.mpr c22
              have c22b1 : (t361 != 18) = true := bne_iff_ne.mpr c22
              exact absurd ((Option.some.inj H).trans HRT.out) (by decide)
          · rw [if_neg c21] at H
            have c21b0 : (a1 == 0) = false := beq_eq_false_iff_ne.mpr c21
            have c21b1 : (a1 != 0) = true := bne_iff_ne.mpr c21
            (first | rw [c21b0] | (simp only [i64_w, i32_w]; rw [c21b0]) | skip)
            replace H := Option.bind_eq_some_iff.mp H
            obtain ⟨⟨t362, t363⟩, A230, H⟩ := H
            replace H : (if t361 = 0 then (if t360 < 1 then (some false) else (if t360 ≥ a0 then (some false) else (if a0 = 0 then (none) else (if (Int.tmod (wrap64 (a1 * t360)) a0) = 1 then (if t363 = 0 then (if t362 = a1 then (fringelaw10_RingField.j1 kj4 a0 a1 a2 a3) else (some false)) else (some false)) else (some false))))) else (some false)) = some r := H
            have A23 := Aside0.mk A230
            clear A230
            by_cases c24 : t361 = 0
            · rw [if_pos c24] at H
              have c24b0 : (t361 == 0) = true := beq_iff_eq.mpr c24
              have c24b1 : (t361 != 0) = false := bne_eq_false_iff_eq.mpr c24
              clear c24
              by_cases c25 : t360 < 1
              · rw [if_pos c25] at H
                have c25b0 : decide (t360 < 1) = true := decide_eq_true c25
                clear c25
                exact absurd ((Option.some.inj H).trans HRT.out) (by decide)
              · rw [if_neg c25] at H
                have c25b0 : decide (t360 < 1) = false := decide_eq_false c25
                clear c25
                by_cases c26 : t360 ≥ a0
                · rw [if_pos c26] at H
                  have c26b0 : decide (a0 ≤ t360) = true := decide_eq_true c26
                  clear c26
                  exact absurd ((Option.some.inj H).trans HRT.out) (by decide)
                · rw [if_neg c26] at H
                  have c26b0 : decide (a0 ≤ t360) = false := decide_eq_false c26
                  clear c26
                  by_cases c27 : a0 = 0
                  · rw [if_pos c27] at H
                    exact absurd H (by simp)
                  · rw [if_neg c27] at H
                    have c27b0 : (a0 == 0) = false := beq_eq_false_iff_ne.mpr c27
                    have c27b1 : (a0 != 0) = true := bne_iff_ne.mpr c27
                    by_cases c28 : (Int.tmod (wrap64 (a1 * t360)) a0) = 1
                    · rw [if_pos c28] at H
                      have c28b0 : ((Int.tmod (wrap64 (a1 * t360)) a0) == 1) = true := beq_iff_eq.mpr c28
                      have c28b1 : ((Int.tmod (wrap64 (a1 * t360)) a0) != 1) = false := bne_eq_false_iff_eq.mpr c28
                      clear c28
                      by_cases c29 : t363 = 0
                      · rw [if_pos c29] at H
                        have c29b0 : (t363 == 0) = true := beq_iff_eq.mpr c29
                        have c29b1 : (t363 != 0) = false := bne_eq_false_iff_eq.mpr c29
                        clear c29
                        by_cases c30 : t362 = a1
                        · rw [if_pos c30] at H
                          have c30b0 : (t362 == a1) = true := beq_iff_eq.mpr c30
                          have c30b1 : (t362 != a1) = false := bne_eq_false_iff_eq.mpr c30
                          clear c30
                          have H' := Aside0.mk H
                          clear H
                          go_wp2_with (first | ((with_reducible refine gate_callee (f := 12) rfl ?_); refine goesL_ (some 55) rfl rfl Try.func12 (by kernel_rfl) rfl #[.int .i64 a0, .int .i64 t360] rfl (by (try simp only [List.map_toArray, List.map_cons, List.map_nil]); first | done | rfl | (simp only [List.length_drop, List.length_take]; rfl)) ?_; (with_reducible refine (ring_Inv.calls kj4 a0 t360 t362 t363 _ A23.out).mono ?_); rintro e w' ⟨rfl, ⟨nd, rfl⟩⟩; refine ⟨_, rfl, ?_⟩))
                          go_meet
                          case rel => exact ⟨_, H', ⟨by have := HJ4.out; first | omega | exact Nat.le_refl _⟩, ⟨by repeat (first | (with_reducible first | exact HB.out | apply below_alloc | apply pw_below_drewN | apply below_drew1) | exact HB.out)⟩⟩
                        · rw [if_neg c30] at H
                          have c30b0 : (t362 == a1) = false := beq_eq_false_iff_ne.mpr c30
                          have c30b1 : (t362 != a1) = true := bne_iff_ne.mpr c30
                          exact absurd ((Option.some.inj H).trans HRT.out) (by decide)
                      · rw [if_neg c29] at H
                        have c29b0 : (t363 == 0) = false := beq_eq_false_iff_ne.mpr c29
                        have c29b1 : (t363 != 0) = true := bne_iff_ne.mpr c29
                        exact absurd ((Option.some.inj H).trans HRT.out) (by decide)
                    · rw [if_neg c28] at H
                      have c28b0 : ((Int.tmod (wrap64 (a1 * t360)) a0) == 1) = false := beq_eq_false_iff_ne.mpr c28
                      have c28b1 : ((Int.tmod (wrap64 (a1 * t360)) a0) != 1) = true := bne_iff_ne.mpr c28
                      exact absurd ((Option.some.inj H).trans HRT.out) (by decide)
            · rw [if_neg c24] at H
              have c24b0 : (t361 == 0) = false := beq_eq_false_iff_ne.mpr c24
              have c24b1 : (t361 != 0) = true := bne_iff_ne.mpr c24
              exact absurd ((Option.some.inj H).trans HRT.out) (by decide)
        case rest =>
          clear HC20
          try clear c1
          try clear c2
          try clear p2
          try clear c3
          try clear p6
          try clear c7
          try clear c7b0
          try clear c7b1
          try clear c8
          try clear c8b0
          try clear c9
          try clear c10
          try clear c10b0
          try clear c12
          try clear c12b0
          try clear c16
          try clear c21
          try clear c21b0
          try clear c21b1
          try clear c22
          try clear c22b0
          try clear c22b1
          try clear c24
          try clear c24b0
          try clear c24b1
          try clear c25
          try clear c25b0
          try clear c26
          try clear c26b0
          try clear c27
          try clear c27b0
          try clear c27b1
          try clear c28
          try clear c28b0
          try clear c28b1
          try clear c29
          try clear c29b0
          try clear c29b1
          try clear c30
          try clear c30b0
          try clear c30b1
          try clear p2
          obtain ⟨kq, HA, HJ19, HB⟩ := hcut
          cases kq with
          | zero => exact absurd HA.out (by simp [fringelaw10_RingField.j1])
          | succ kj19 =>
            have H := HA.out
            clear HA
            simp only [fringelaw10_RingField.j1] at H
            replace H := Option.bind_eq_some_iff.mp H
            obtain ⟨⟨t364, t365⟩, A310, H⟩ := H
            replace H : ((ring_Pow.f kj19 a0 a1 a3).bind fun bt366 => ((ring_Pow.f kj19 a0 a1 (wrap64 (a2 + a3))).bind fun bt368 => ((ring_Pow.f kj19 a0 a1 a0).bind fun bt370 => (if t365 = 0 then (if bt366.2 = 0 then (if bt368.2 = 0 then (if t364 ≥ 0 then (if t364 < a0 then (if bt366.1 ≥ 0 then (if bt366.1 < a0 then (if a0 = 0 then (none) else (if (Int.tmod (wrap64 (t364 * bt366.1)) a0) = bt368.1 then (if bt370.2 = 0 then (if bt370.1 = a1 then ((fringelaw10_alive.f).bind fun t372 => (some t372)) else (some false)) else (some false)) else (some false))) else (some false)) else (some false)) else (some false)) else (some false)) else (some false)) else (some false)) else (some false))))) = some r := H
            have A31 := Aside0.mk A310
            clear A310
            replace H := Option.bind_eq_some_iff.mp H
            obtain ⟨⟨t366, t367⟩, A320, H⟩ := H
            replace H : ((ring_Pow.f kj19 a0 a1 (wrap64 (a2 + a3))).bind fun bt368 => ((ring_Pow.f kj19 a0 a1 a0).bind fun bt370 => (if t365 = 0 then (if t367 = 0 then (if bt368.2 = 0 then (if t364 ≥ 0 then (if t364 < a0 then (if t366 ≥ 0 then (if t366 < a0 then (if a0 = 0 then (none) else (if (Int.tmod (wrap64 (t364 * t366)) a0) = bt368.1 then (if bt370.2 = 0 then (if bt370.1 = a1 then ((fringelaw10_alive.f).bind fun t372 => (some t372)) else (some false)) else (some false)) else (some false))) else (some false)) else (some false)) else (some false)) else (some false)) else (some false)) else (some false)) else (some false)))) = some r := H
            have A32 := Aside0.mk A320
            clear A320
            replace H := Option.bind_eq_some_iff.mp H
            obtain ⟨⟨t368, t369⟩, A330, H⟩ := H
            replace H : ((ring_Pow.f kj19 a0 a1 a0).bind fun bt370 => (if t365 = 0 then (if t367 = 0 then (if t369 = 0 then (if t364 ≥ 0 then (if t364 < a0 then (if t366 ≥ 0 then (if t366 < a0 then (if a0 = 0 then (none) else (if (Int.tmod (wrap64 (t364 * t366)) a0) = t368 then (if bt370.2 = 0 then (if bt370.1 = a1 then ((fringelaw10_alive.f).bind fun t372 => (some t372)) else (some false)) else (some false)) else (some false))) else (some false)) else (some false)) else (some false)) else (some false)) else (some false)) else (some false)) else (some false))) = some r := H
            have A33 := Aside0.mk A330
            clear A330
            replace H := Option.bind_eq_some_iff.mp H
            obtain ⟨⟨t370, t371⟩, A340, H⟩ := H
            replace H : (if t365 = 0 then (if t367 = 0 then (if t369 = 0 then (if t364 ≥ 0 then (if t364 < a0 then (if t366 ≥ 0 then (if t366 < a0 then (if a0 = 0 then (none) else (if (Int.tmod (wrap64 (t364 * t366)) a0) = t368 then (if t371 = 0 then (if t370 = a1 then ((fringelaw10_alive.f).bind fun t372 => (some t372)) else (some false)) else (some false)) else (some false))) else (some false)) else (some false)) else (some false)) else (some false)) else (some false)) else (some false)) else (some false)) = some r := H
            have A34 := Aside0.mk A340
            clear A340
            by_cases c35 : t365 = 0
            · rw [if_pos c35] at H
              have c35b0 : (t365 == 0) = true := beq_iff_eq.mpr c35
              have c35b1 : (t365 != 0) = false := bne_eq_false_iff_eq.mpr c35
              clear c35
              by_cases c36 : t367 = 0
              · rw [if_pos c36] at H
                have c36b0 : (t367 == 0) = true := beq_iff_eq.mpr c36
                have c36b1 : (t367 != 0) = false := bne_eq_false_iff_eq.mpr c36
                clear c36
                by_cases c37 : t369 = 0
                · rw [if_pos c37] at H
                  have c37b0 : (t369 == 0) = true := beq_iff_eq.mpr c37
                  have c37b1 : (t369 != 0) = false := bne_eq_false_iff_eq.mpr c37
                  clear c37
                  by_cases c38 : t364 ≥ 0
                  · rw [if_pos c38] at H
                    have c38b0 : decide (0 ≤ t364) = true := decide_eq_true c38
                    clear c38
                    by_cases c39 : t364 < a0
                    · rw [if_pos c39] at H
                      have c39b0 : decide (t364 < a0) = true := decide_eq_true c39
                      clear c39
                      by_cases c40 : t366 ≥ 0
                      · rw [if_pos c40] at H
                        have c40b0 : decide (0 ≤ t366) = true := decide_eq_true c40
                        clear c40
                        by_cases c41 : t366 < a0
                        · rw [if_pos c41] at H
                          have c41b0 : decide (t366 < a0) = true := decide_eq_true c41
                          clear c41
                          by_cases c42 : a0 = 0
                          · rw [if_pos c42] at H
                            exact absurd H (by simp)
                          · rw [if_neg c42] at H
                            have c42b0 : (a0 == 0) = false := beq_eq_false_iff_ne.mpr c42
                            have c42b1 : (a0 != 0) = true := bne_iff_ne.mpr c42
                            by_cases c43 : (Int.tmod (wrap64 (t364 * t366)) a0) = t368
                            · rw [if_pos c43] at H
                              have c43b0 : ((Int.tmod (wrap64 (t364 * t366)) a0) == t368) = true := beq_iff_eq.mpr c43
                              have c43b1 : ((Int.tmod (wrap64 (t364 * t366)) a0) != t368) = false := bne_eq_false_iff_eq.mpr c43
                              clear c43
                              by_cases c44 : t371 = 0
                              · rw [if_pos c44] at H
                                have c44b0 : (t371 == 0) = true := beq_iff_eq.mpr c44
                                have c44b1 : (t371 != 0) = false := bne_eq_false_iff_eq.mpr c44
                                clear c44
                                by_cases c45 : t370 = a1
                                · rw [if_pos c45] at H
                                  have c45b0 : (t370 == a1) = true := beq_iff_eq.mpr c45
                                  have c45b1 : (t370 != a1) = false := bne_eq_false_iff_eq.mpr c45
                                  clear c45
                                  replace H := Option.bind_eq_some_iff.mp H
                                  obtain ⟨t372, A460, H⟩ := H
                                  replace H : (some t372) = some r := H
                                  have A46 := Aside0.mk A460
                                  clear A460
                                  obtain rfl := Option.some.inj H
                                  go_wp2_with (first | ((with_reducible refine gate_callee (f := 10) rfl ?_); refine goesL_ (some 90) rfl rfl Try.func10 (by kernel_rfl) rfl #[.int .i64 a0, .int .i64 a1, .int .i64 a2] rfl (by (try simp only [List.map_toArray, List.map_cons, List.map_nil]); first | done | rfl | (simp only [List.length_drop, List.length_take]; rfl)) ?_; (with_reducible refine (ring_Pow.calls kj19 a0 a1 a2 t364 t365 _ A31.out).mono ?_); rintro e w' ⟨rfl, ⟨nd, rfl⟩⟩; refine ⟨_, rfl, ?_⟩) | ((with_reducible refine gate_callee (f := 10) rfl ?_); refine goesL_ (some 97) rfl rfl Try.func10 (by kernel_rfl) rfl #[.int .i64 a0, .int .i64 a1, .int .i64 a3] rfl (by (try simp only [List.map_toArray, List.map_cons, List.map_nil]); first | done | rfl | (simp only [List.length_drop, List.length_take]; rfl)) ?_; (with_reducible refine (ring_Pow.calls kj19 a0 a1 a3 t366 t367 _ A32.out).mono ?_); rintro e w' ⟨rfl, ⟨nd, rfl⟩⟩; refine ⟨_, rfl, ?_⟩) | ((with_reducible refine gate_callee (f := 10) rfl ?_); refine goesL_ (some 106) rfl rfl Try.func10 (by kernel_rfl) rfl #[.int .i64 a0, .int .i64 a1, .int .i64 (wrap64 (a2 + a3))] rfl (by (try simp only [List.map_toArray, List.map_cons, List.map_nil]); first | done | rfl | (simp only [List.length_drop, List.length_take]; rfl)) ?_; (with_reducible refine (ring_Pow.calls kj19 a0 a1 (wrap64 (a2 + a3)) t368 t369 _ A33.out).mono ?_); rintro e w' ⟨rfl, ⟨nd, rfl⟩⟩; refine ⟨_, rfl, ?_⟩) | ((with_reducible refine gate_callee (f := 10) rfl ?_); refine goesL_ (some 113) rfl rfl Try.func10 (by kernel_rfl) rfl #[.int .i64 a0, .int .i64 a1, .int .i64 a0] rfl (by (try simp only [List.map_toArray, List.map_cons, List.map_nil]); first | done | rfl | (simp only [List.length_drop, List.length_take]; rfl)) ?_; (with_reducible refine (ring_Pow.calls kj19 a0 a1 a0 t370 t371 _ A34.out).mono ?_); rintro e w' ⟨rfl, ⟨nd, rfl⟩⟩; refine ⟨_, rfl, ?_⟩) | (go_at_call 26; (with_reducible refine (fringelaw10_alive.calls  t372 _ A46.out).mono ?_); rintro e w47 ⟨rfl, hb⟩; have n0_ := Aside0.mk (below_step (by repeat (first | (with_reducible first | exact HB.out | apply below_alloc | apply pw_below_drewN | apply below_drew1) | exact HB.out)) hb); clear HB; have HB := n0_; clear n0_; (try clear hb); (try clear hb2); (try clear hk); (try clear hi)))
                                  go_ret
                                  exact ⟨by first | rfl | (simp [errW_none, errW_some] <;> rfl) | (simp [*, errW_none, errW_some] <;> rfl), by repeat (first | (with_reducible first | exact HB.out | apply below_alloc | apply pw_below_drewN | apply below_drew1) | exact HB.out)⟩
                                · rw [if_neg c45] at H
                                  have c45b0 : (t370 == a1) = false := beq_eq_false_iff_ne.mpr c45
                                  have c45b1 : (t370 != a1) = true := bne_iff_ne.mpr c45
                                  exact absurd ((Option.some.inj H).trans HRT.out) (by decide)
                              · rw [if_neg c44] at H
                                have c44b0 : (t371 == 0) = false := beq_eq_false_iff_ne.mpr c44
                                have c44b1 : (t371 != 0) = true := bne_iff_ne.mpr c44
                                exact absurd ((Option.some.inj H).trans HRT.out) (by decide)
                            · rw [if_neg c43] at H
                              have c43b0 : ((Int.tmod (wrap64 (t364 * t366)) a0) == t368) = false := beq_eq_false_iff_ne.mpr c43
                              have c43b1 : ((Int.tmod (wrap64 (t364 * t366)) a0) != t368) = true := bne_iff_ne.mpr c43
                              exact absurd ((Option.some.inj H).trans HRT.out) (by decide)
                        · rw [if_neg c41] at H
                          have c41b0 : decide (t366 < a0) = false := decide_eq_false c41
                          clear c41
                          exact absurd ((Option.some.inj H).trans HRT.out) (by decide)
                      · rw [if_neg c40] at H
                        have c40b0 : decide (0 ≤ t366) = false := decide_eq_false c40
                        clear c40
                        exact absurd ((Option.some.inj H).trans HRT.out) (by decide)
                    · rw [if_neg c39] at H
                      have c39b0 : decide (t364 < a0) = false := decide_eq_false c39
                      clear c39
                      exact absurd ((Option.some.inj H).trans HRT.out) (by decide)
                  · rw [if_neg c38] at H
                    have c38b0 : decide (0 ≤ t364) = false := decide_eq_false c38
                    clear c38
                    exact absurd ((Option.some.inj H).trans HRT.out) (by decide)
                · rw [if_neg c37] at H
                  have c37b0 : (t369 == 0) = false := beq_eq_false_iff_ne.mpr c37
                  have c37b1 : (t369 != 0) = true := bne_iff_ne.mpr c37
                  exact absurd ((Option.some.inj H).trans HRT.out) (by decide)
              · rw [if_neg c36] at H
                have c36b0 : (t367 == 0) = false := beq_eq_false_iff_ne.mpr c36
                have c36b1 : (t367 != 0) = true := bne_iff_ne.mpr c36
                exact absurd ((Option.some.inj H).trans HRT.out) (by decide)
            · rw [if_neg c35] at H
              have c35b0 : (t365 == 0) = false := beq_eq_false_iff_ne.mpr c35
              have c35b1 : (t365 != 0) = true := bne_iff_ne.mpr c35
              exact absurd ((Option.some.inj H).trans HRT.out) (by decide)

/-- THE ONE PURE STATEMENT of fringelaw10_RingField: yours. -/
def fringelaw10_RingField.Pure : Prop := ∀ (a0 : Int) (a1 : Int) (a2 : Int) (a3 : Int), (Lit.int .i64 a0).wf = true → (Lit.int .i64 a1).wf = true → (Lit.int .i64 a2).wf = true → (Lit.int .i64 a3).wf = true → ∃ k, fringelaw10_RingField.f k a0 a1 a2 a3 = some true
theorem fringelaw10_RingField.walk (P : fringelaw10_RingField.Pure) (a0 : Int) (a1 : Int) (a2 : Int) (a3 : Int) (w : World) (w0 : (Lit.int .i64 a0).wf = true) (w1 : (Lit.int .i64 a1).wf = true) (w2 : (Lit.int .i64 a2).wf = true) (w3 : (Lit.int .i64 a3).wf = true) :
    Calls Try.prog 9 #[.int .i64 a0, .int .i64 a1, .int .i64 a2, .int .i64 a3] w fun e w' => e = .returned (.bool true) ∧ Below w.heap.size w w' := by
  obtain ⟨k, h⟩ := P a0 a1 a2 a3 w0 w1 w2 w3
  refine (fringelaw10_RingField.calls k a0 a1 a2 a3 true w rfl h).mono ?_
  rintro e w' ⟨rfl, hd⟩
  exact ⟨rfl, hd⟩

end Go.Proofs.Ytehbmpdmdfiagaa.PAll
