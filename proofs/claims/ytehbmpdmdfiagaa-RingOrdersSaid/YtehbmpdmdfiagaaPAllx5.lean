-- Written by a program of this session, after the kit's print
import Derived.Test.YtehbmpdmdfiagaaPAllx0
import Derived.Test.YtehbmpdmdfiagaaPAllx1
import Derived.Test.YtehbmpdmdfiagaaPAllx2
import Derived.Test.YtehbmpdmdfiagaaPAllx3
import Derived.Test.YtehbmpdmdfiagaaPAllx4
namespace Go.Proofs.Ytehbmpdmdfiagaa.PAll
open Go.RowKit Go.Proofs.YtehbmpdmdfiagaaW.PrintWords Go.Proofs.YtehbmpdmdfiagaaW.PrintLast Go.Proofs.YtehbmpdmdfiagaaW.PrintMore
attribute [local go_sem] max2_int min2_int max_two min_two max_three min_three max_four min_four   -- for this text's walks alone
set_option linter.unusedVariables false
set_option linter.unusedSimpArgs false

/-! ### fringelaw10_RingOrders: function 5 -/
mutual
def fringelaw10_RingOrders.j0 : Nat → Int → Int → Int → Bool → Option (Bool)
  | 0, _, _, _, _ => none
  | k + 1, x0, x1, x2, x35 => if x35 = true then ((fringelaw10_alive.f).bind fun t229 => (some t229)) else ((ring_Order.f k x0 x1).bind fun bt230 => (if bt230.2 = 0 then (if bt230.1 < 1 then (fringelaw10_RingOrders.j1 k x0 x1 x2 bt230.1 true) else (if bt230.1 = 0 then (none) else (if (Int.tmod (wrap64 (x0 - 1)) bt230.1) = 0 then ((fringeref10_Power.f k x0 x1 bt230.1).bind fun t232 => (fringelaw10_RingOrders.j1 k x0 x1 x2 bt230.1 (t232 != 1))) else (fringelaw10_RingOrders.j1 k x0 x1 x2 bt230.1 true)))) else (fringelaw10_RingOrders.j1 k x0 x1 x2 bt230.1 true)))
def fringelaw10_RingOrders.j1 : Nat → Int → Int → Int → Int → Bool → Option (Bool)
  | 0, _, _, _, _, _ => none
  | k + 1, x0, x1, x2, x7, x62 => if x62 = true then (some false) else ((ring_Factors.f k x7).bind fun bt233 => (if bt233.2 = 0 then (fringelaw10_RingOrders.l0 k x0 x1 x2 x7 bt233.1 0) else (some false)))
def fringelaw10_RingOrders.l0 : Nat → Int → Int → Int → Int → List Int → Int → Option (Bool)
  | 0, _, _, _, _, _, _ => none
  | k + 1, x0, x1, x2, x7, x9, x11 => if x11 < (x9.length : Int) then (if 0 ≤ x11 then (if (rd x9 x11) < 2 then (some false) else (if (rd x9 x11) = 0 then (none) else (if (Int.tmod x7 (rd x9 x11)) = 0 then ((fringeref10_Power.f k x0 x1 (wrap64 (Int.tdiv x7 (rd x9 x11)))).bind fun t240 => (if t240 = 1 then (some false) else (fringelaw10_RingOrders.l0 k x0 x1 x2 x7 x9 (wrap64 (x11 + 1))))) else (some false)))) else (none)) else ((ring_Generator.f k x0).bind fun bt241 => ((ring_Order.f k x0 bt241.1).bind fun bt243 => ((ring_Order.f k x0 x2).bind fun bt245 => (if bt241.2 = 0 then (if bt243.2 = 0 then (if bt243.1 = (wrap64 (x0 - 1)) then (if bt245.2 = 0 then (if x2 ≥ bt241.1 then ((fringelaw10_alive.f).bind fun t247 => (some t247)) else (if bt245.1 < (wrap64 (x0 - 1)) then ((fringelaw10_alive.f).bind fun t248 => (some t248)) else (some false))) else (some false)) else (some false)) else (some false)) else (some false)))))
end
def fringelaw10_RingOrders.f (k : Nat) (a0 : Int) (a1 : Int) (a2 : Int) : Option (Bool) := (fringeref10_Both.f k a0 a1).bind fun t227 => (if t227 = 0 then ((fringeref10_Both.f k a0 a2).bind fun t228 => (if t228 = 0 then (if a1 = 0 then (fringelaw10_RingOrders.j0 k a0 a1 a2 true) else (fringelaw10_RingOrders.j0 k a0 a1 a2 (a2 == 0))) else (fringelaw10_RingOrders.j0 k a0 a1 a2 true))) else (fringelaw10_RingOrders.j0 k a0 a1 a2 true))
theorem fringelaw10_RingOrders.mono_l : ∀ k, (∀ y0 y1 y2 y3, LeO (fringelaw10_RingOrders.j0 k y0 y1 y2 y3) (fringelaw10_RingOrders.j0 (k + 1) y0 y1 y2 y3)) ∧ (∀ y0 y1 y2 y3 y4, LeO (fringelaw10_RingOrders.j1 k y0 y1 y2 y3 y4) (fringelaw10_RingOrders.j1 (k + 1) y0 y1 y2 y3 y4)) ∧ (∀ y0 y1 y2 y3 y4 y5, LeO (fringelaw10_RingOrders.l0 k y0 y1 y2 y3 y4 y5) (fringelaw10_RingOrders.l0 (k + 1) y0 y1 y2 y3 y4 y5))
  | 0 => ⟨fun _ _ _ _ r h => by simp [fringelaw10_RingOrders.j0] at h, fun _ _ _ _ _ r h => by simp [fringelaw10_RingOrders.j1] at h, fun _ _ _ _ _ _ r h => by simp [fringelaw10_RingOrders.l0] at h⟩
  | k + 1 => by
    obtain ⟨ih0, ih1, ih2⟩ := fringelaw10_RingOrders.mono_l k
    refine ⟨?_, ?_, ?_⟩
    · intro y0 y1 y2 y3
      unfold fringelaw10_RingOrders.j0
      repeat' first
      | (with_reducible exact ih0 _ _ _ _)
      | (with_reducible exact ih1 _ _ _ _ _)
      | (with_reducible exact ih2 _ _ _ _ _ _)
      | (with_reducible exact fringeref10_Both.mono _ _ _)
      | (with_reducible exact fringeref10_Power.mono _ _ _ _)
      | (with_reducible exact ring_Factors.mono _ _)
      | (with_reducible exact ring_Generator.mono _ _)
      | (with_reducible exact ring_Order.mono _ _ _)
      | (with_reducible exact LeO.refl _)
      | (with_reducible exact LeO.none _)
      | (with_reducible refine LeO.ite ?_ ?_)
      | (with_reducible refine LeO.bind ?_ (fun _ => ?_))
      | exact ih0 _ _ _ _
      | exact ih1 _ _ _ _ _
      | exact ih2 _ _ _ _ _ _
      | exact fringeref10_Both.mono _ _ _
      | exact fringeref10_Power.mono _ _ _ _
      | exact ring_Factors.mono _ _
      | exact ring_Generator.mono _ _
      | exact ring_Order.mono _ _ _
      | exact LeO.none _
      | refine LeO.ite ?_ ?_
      | refine LeO.bind ?_ (fun _ => ?_)
    · intro y0 y1 y2 y3 y4
      unfold fringelaw10_RingOrders.j1
      repeat' first
      | (with_reducible exact ih0 _ _ _ _)
      | (with_reducible exact ih1 _ _ _ _ _)
      | (with_reducible exact ih2 _ _ _ _ _ _)
      | (with_reducible exact fringeref10_Both.mono _ _ _)
      | (with_reducible exact fringeref10_Power.mono _ _ _ _)
      | (with_reducible exact ring_Factors.mono _ _)
      | (with_reducible exact ring_Generator.mono _ _)
      | (with_reducible exact ring_Order.mono _ _ _)
      | (with_reducible exact LeO.refl _)
      | (with_reducible exact LeO.none _)
      | (with_reducible refine LeO.ite ?_ ?_)
      | (with_reducible refine LeO.bind ?_ (fun _ => ?_))
      | exact ih0 _ _ _ _
      | exact ih1 _ _ _ _ _
      | exact ih2 _ _ _ _ _ _
      | exact fringeref10_Both.mono _ _ _
      | exact fringeref10_Power.mono _ _ _ _
      | exact ring_Factors.mono _ _
      | exact ring_Generator.mono _ _
      | exact ring_Order.mono _ _ _
      | exact LeO.none _
      | refine LeO.ite ?_ ?_
      | refine LeO.bind ?_ (fun _ => ?_)
    · intro y0 y1 y2 y3 y4 y5
      unfold fringelaw10_RingOrders.l0
      repeat' first
      | (with_reducible exact ih0 _ _ _ _)
      | (with_reducible exact ih1 _ _ _ _ _)
      | (with_reducible exact ih2 _ _ _ _ _ _)
      | (with_reducible exact fringeref10_Both.mono _ _ _)
      | (with_reducible exact fringeref10_Power.mono _ _ _ _)
      | (with_reducible exact ring_Factors.mono _ _)
      | (with_reducible exact ring_Generator.mono _ _)
      | (with_reducible exact ring_Order.mono _ _ _)
      | (with_reducible exact LeO.refl _)
      | (with_reducible exact LeO.none _)
      | (with_reducible refine LeO.ite ?_ ?_)
      | (with_reducible refine LeO.bind ?_ (fun _ => ?_))
      | exact ih0 _ _ _ _
      | exact ih1 _ _ _ _ _
      | exact ih2 _ _ _ _ _ _
      | exact fringeref10_Both.mono _ _ _
      | exact fringeref10_Power.mono _ _ _ _
      | exact ring_Factors.mono _ _
      | exact ring_Generator.mono _ _
      | exact ring_Order.mono _ _ _
      | exact LeO.none _
      | refine LeO.ite ?_ ?_
      | refine LeO.bind ?_ (fun _ => ?_)
theorem fringelaw10_RingOrders.mono : ∀ a0 a1 a2 k, LeO (fringelaw10_RingOrders.f k a0 a1 a2) (fringelaw10_RingOrders.f (k + 1) a0 a1 a2) := by
  intro a0 a1 a2 k
  obtain ⟨ih0, ih1, ih2⟩ := fringelaw10_RingOrders.mono_l k
  unfold fringelaw10_RingOrders.f
  repeat' first
      | (with_reducible exact ih0 _ _ _ _)
      | (with_reducible exact ih1 _ _ _ _ _)
      | (with_reducible exact ih2 _ _ _ _ _ _)
      | (with_reducible exact fringeref10_Both.mono _ _ _)
      | (with_reducible exact fringeref10_Power.mono _ _ _ _)
      | (with_reducible exact ring_Factors.mono _ _)
      | (with_reducible exact ring_Generator.mono _ _)
      | (with_reducible exact ring_Order.mono _ _ _)
      | (with_reducible exact LeO.refl _)
      | (with_reducible exact LeO.none _)
      | (with_reducible refine LeO.ite ?_ ?_)
      | (with_reducible refine LeO.bind ?_ (fun _ => ?_))
      | exact ih0 _ _ _ _
      | exact ih1 _ _ _ _ _
      | exact ih2 _ _ _ _ _ _
      | exact fringeref10_Both.mono _ _ _
      | exact fringeref10_Power.mono _ _ _ _
      | exact ring_Factors.mono _ _
      | exact ring_Generator.mono _ _
      | exact ring_Order.mono _ _ _
      | exact LeO.none _
      | refine LeO.ite ?_ ?_
      | refine LeO.bind ?_ (fun _ => ?_)
set_option maxHeartbeats 8000000 in
set_option maxRecDepth 100000 in
theorem fringelaw10_RingOrders.calls (k : Nat) (a0 : Int) (a1 : Int) (a2 : Int) (r : Bool) (w : World) (hrt : r = true) (h : fringelaw10_RingOrders.f k a0 a1 a2 = some r) :
    Calls Try.prog 5 #[.int .i64 a0, .int .i64 a1, .int .i64 a2] w fun e w' => e = .returned (.bool r) ∧ Below w.heap.size w w' := by
  have HB := Aside0.mk (Below.refl w.heap.size w)
  have HRT := Aside0.mk hrt
  clear hrt
  have H : ((fringeref10_Both.f k a0 a1).bind fun t227 => (if t227 = 0 then ((fringeref10_Both.f k a0 a2).bind fun t228 => (if t228 = 0 then (if a1 = 0 then (fringelaw10_RingOrders.j0 k a0 a1 a2 true) else (fringelaw10_RingOrders.j0 k a0 a1 a2 (a2 == 0))) else (fringelaw10_RingOrders.j0 k a0 a1 a2 true))) else (fringelaw10_RingOrders.j0 k a0 a1 a2 true))) = some r := h
  clear h
  have HC4 := Aside0.mk H
  clear H
  go_enter Try.func5, Try.ntmps5
  go_upto_region 1 with (fail)
  go_cut [35] (fun v35 wc => ∃ (kq : Nat) (x35_3 : Bool), v35 = .bool x35_3 ∧ Aside0 (fringelaw10_RingOrders.j0 kq a0 a1 a2 x35_3 = some r) ∧ Aside0 (kq ≤ k) ∧ Aside0 (Below w.heap.size w wc))
  case first =>
    have H := HC4.out
    clear HC4
    replace H := Option.bind_eq_some_iff.mp H
    obtain ⟨t227, A50, H⟩ := H
    replace H : (if t227 = 0 then ((fringeref10_Both.f k a0 a2).bind fun t228 => (if t228 = 0 then (if a1 = 0 then (fringelaw10_RingOrders.j0 k a0 a1 a2 true) else (fringelaw10_RingOrders.j0 k a0 a1 a2 (a2 == 0))) else (fringelaw10_RingOrders.j0 k a0 a1 a2 true))) else (fringelaw10_RingOrders.j0 k a0 a1 a2 true)) = some r := H
    have A5 := Aside0.mk A50
    clear A50
    by_cases c6 : t227 = 0
    · rw [if_pos c6] at H
      have c6b0 : (t227 == 0) = true := beq_iff_eq.mpr c6
      have c6b1 : (t227 != 0) = false := bne_eq_false_iff_eq.mpr c6
      clear c6
      (first | rw [c6b0] | (simp only [i64_w, i32_w]; rw [c6b0]) | skip)
      replace H := Option.bind_eq_some_iff.mp H
      obtain ⟨t228, A70, H⟩ := H
      replace H : (if t228 = 0 then (if a1 = 0 then (fringelaw10_RingOrders.j0 k a0 a1 a2 true) else (fringelaw10_RingOrders.j0 k a0 a1 a2 (a2 == 0))) else (fringelaw10_RingOrders.j0 k a0 a1 a2 true)) = some r := H
      have A7 := Aside0.mk A70
      clear A70
      by_cases c8 : t228 = 0
      · rw [if_pos c8] at H
        have c8b0 : (t228 == 0) = true := beq_iff_eq.mpr c8
        have c8b1 : (t228 != 0) = false := bne_eq_false_iff_eq.mpr c8
        clear c8
        by_cases c9 : a1 = 0
        · rw [if_pos c9] at H
          have c9b0 : (a1 == 0) = true := beq_iff_eq.mpr c9
          have c9b1 : (a1 != 0) = false := bne_eq_false_iff_eq.mpr c9
          clear c9
          have H' := Aside0.mk H
          clear H
          go_wp2_with (first | ((with_reducible refine gate_callee (f := 25) rfl ?_); refine goesL_ (some 20) rfl rfl Try.func25 (by kernel_rfl) rfl #[.int .i64 a0, .int .i64 a1] rfl (by (try simp only [List.map_toArray, List.map_cons, List.map_nil]); first | done | rfl | (simp only [List.length_drop, List.length_take]; rfl)) ?_; (with_reducible refine (fringeref10_Both.calls k a0 a1 t227 _ A5.out).mono ?_); rintro e w10 ⟨rfl, hb⟩; refine ⟨_, rfl, ?_⟩; have n0_ := Aside0.mk (below_step (by repeat (first | (with_reducible first | exact HB.out | apply below_alloc | apply pw_below_drewN | apply below_drew1) | exact HB.out)) hb); clear HB; have HB := n0_; clear n0_; (try clear hb); (try clear hb2); (try clear hk); (try clear hi)) | (go_at_call 25; (with_reducible refine (fringeref10_Both.calls k a0 a2 t228 _ A7.out).mono ?_); rintro e w11 ⟨rfl, hb⟩; have n0_ := Aside0.mk (below_step (by repeat (first | (with_reducible first | exact HB.out | apply below_alloc | apply pw_below_drewN | apply below_drew1) | exact HB.out)) hb); clear HB; have HB := n0_; clear n0_; (try clear hb); (try clear hb2); (try clear hk); (try clear hi)))
          go_meet
          case rel => exact ⟨_, (true), (by first | rfl | (simp; done) | (simp [*]; done)), H', ⟨by first | omega | exact Nat.le_refl _⟩, ⟨by repeat (first | (with_reducible first | exact HB.out | apply below_alloc | apply pw_below_drewN | apply below_drew1) | exact HB.out)⟩⟩
        · rw [if_neg c9] at H
          have c9b0 : (a1 == 0) = false := beq_eq_false_iff_ne.mpr c9
          have c9b1 : (a1 != 0) = true := bne_iff_ne.mpr c9
          have H' := Aside0.mk H
          clear H
          go_wp2_with (first | ((with_reducible refine gate_callee (f := 25) rfl ?_); refine goesL_ (some 20) rfl rfl Try.func25 (by kernel_rfl) rfl #[.int .i64 a0, .int .i64 a1] rfl (by (try simp only [List.map_toArray, List.map_cons, List.map_nil]); first | done | rfl | (simp only [List.length_drop, List.length_take]; rfl)) ?_; (with_reducible refine (fringeref10_Both.calls k a0 a1 t227 _ A5.out).mono ?_); rintro e w12 ⟨rfl, hb⟩; refine ⟨_, rfl, ?_⟩; have n0_ := Aside0.mk (below_step (by repeat (first | (with_reducible first | exact HB.out | apply below_alloc | apply pw_below_drewN | apply below_drew1) | exact HB.out)) hb); clear HB; have HB := n0_; clear n0_; (try clear hb); (try clear hb2); (try clear hk); (try clear hi)) | (go_at_call 25; (with_reducible refine (fringeref10_Both.calls k a0 a2 t228 _ A7.out).mono ?_); rintro e w13 ⟨rfl, hb⟩; have n0_ := Aside0.mk (below_step (by repeat (first | (with_reducible first | exact HB.out | apply below_alloc | apply pw_below_drewN | apply below_drew1) | exact HB.out)) hb); clear HB; have HB := n0_; clear n0_; (try clear hb); (try clear hb2); (try clear hk); (try clear hi)))
          go_meet
          case rel => exact ⟨_, ((a2 == 0)), (by first | rfl | (simp; done) | (simp [*]; done)), H', ⟨by first | omega | exact Nat.le_refl _⟩, ⟨by repeat (first | (with_reducible first | exact HB.out | apply below_alloc | apply pw_below_drewN | apply below_drew1) | exact HB.out)⟩⟩
      · rw [if_neg c8] at H
        have c8b0 : (t228 == 0) = false := beq_eq_false_iff_ne.mpr c8
        have c8b1 : (t228 != 0) = true := bne_iff_ne.mpr c8
        have H' := Aside0.mk H
        clear H
        go_wp2_with (first | ((with_reducible refine gate_callee (f := 25) rfl ?_); refine goesL_ (some 20) rfl rfl Try.func25 (by kernel_rfl) rfl #[.int .i64 a0, .int .i64 a1] rfl (by (try simp only [List.map_toArray, List.map_cons, List.map_nil]); first | done | rfl | (simp only [List.length_drop, List.length_take]; rfl)) ?_; (with_reducible refine (fringeref10_Both.calls k a0 a1 t227 _ A5.out).mono ?_); rintro e w14 ⟨rfl, hb⟩; refine ⟨_, rfl, ?_⟩; have n0_ := Aside0.mk (below_step (by repeat (first | (with_reducible first | exact HB.out | apply below_alloc | apply pw_below_drewN | apply below_drew1) | exact HB.out)) hb); clear HB; have HB := n0_; clear n0_; (try clear hb); (try clear hb2); (try clear hk); (try clear hi)) | (go_at_call 25; (with_reducible refine (fringeref10_Both.calls k a0 a2 t228 _ A7.out).mono ?_); rintro e w15 ⟨rfl, hb⟩; have n0_ := Aside0.mk (below_step (by repeat (first | (with_reducible first | exact HB.out | apply below_alloc | apply pw_below_drewN | apply below_drew1) | exact HB.out)) hb); clear HB; have HB := n0_; clear n0_; (try clear hb); (try clear hb2); (try clear hk); (try clear hi)))
        go_meet
        case rel => exact ⟨_, (true), (by first | rfl | (simp; done) | (simp [*]; done)), H', ⟨by first | omega | exact Nat.le_refl _⟩, ⟨by repeat (first | (with_reducible first | exact HB.out | apply below_alloc | apply pw_below_drewN | apply below_drew1) | exact HB.out)⟩⟩
    · rw [if_neg c6] at H
      have c6b0 : (t227 == 0) = false := beq_eq_false_iff_ne.mpr c6
      have c6b1 : (t227 != 0) = true := bne_iff_ne.mpr c6
      (first | rw [c6b0] | (simp only [i64_w, i32_w]; rw [c6b0]) | skip)
      have H' := Aside0.mk H
      clear H
      go_wp2_with (first | ((with_reducible refine gate_callee (f := 25) rfl ?_); refine goesL_ (some 20) rfl rfl Try.func25 (by kernel_rfl) rfl #[.int .i64 a0, .int .i64 a1] rfl (by (try simp only [List.map_toArray, List.map_cons, List.map_nil]); first | done | rfl | (simp only [List.length_drop, List.length_take]; rfl)) ?_; (with_reducible refine (fringeref10_Both.calls k a0 a1 t227 _ A5.out).mono ?_); rintro e w16 ⟨rfl, hb⟩; refine ⟨_, rfl, ?_⟩; have n0_ := Aside0.mk (below_step (by repeat (first | (with_reducible first | exact HB.out | apply below_alloc | apply pw_below_drewN | apply below_drew1) | exact HB.out)) hb); clear HB; have HB := n0_; clear n0_; (try clear hb); (try clear hb2); (try clear hk); (try clear hi)))
      go_meet
      case rel => exact ⟨_, (true), (by first | rfl | (simp; done) | (simp [*]; done)), H', ⟨by first | omega | exact Nat.le_refl _⟩, ⟨by repeat (first | (with_reducible first | exact HB.out | apply below_alloc | apply pw_below_drewN | apply below_drew1) | exact HB.out)⟩⟩
  case rest =>
    clear HC4
    try clear c2
    try clear p2
    try clear c5
    try clear c6
    try clear c6b0
    try clear c6b1
    try clear c8
    try clear c8b0
    try clear c8b1
    try clear c9
    try clear c9b0
    try clear c9b1
    obtain ⟨kq, x35_3, rfl, HA, HJ3, HB⟩ := hcut
    cases kq with
    | zero => exact absurd HA.out (by simp [fringelaw10_RingOrders.j0])
    | succ kj3 =>
      have H := HA.out
      clear HA
      simp only [fringelaw10_RingOrders.j0] at H
      by_cases c17 : x35_3 = true
      · subst c17
        have H1 : ((fringelaw10_alive.f).bind fun t229 => (some t229)) = some r := by rw [if_pos rfl] at H; exact H
        clear H
        have H := H1
        clear H1
        replace H := Option.bind_eq_some_iff.mp H
        obtain ⟨t229, A180, H⟩ := H
        replace H : (some t229) = some r := H
        have A18 := Aside0.mk A180
        clear A180
        obtain rfl := Option.some.inj H
        go_wp2_with (first | ((with_reducible refine gate_callee (f := 26) rfl ?_); refine goesL_ (some 36) rfl rfl Try.func26 (by kernel_rfl) rfl #[] rfl (by (try simp only [List.map_toArray, List.map_cons, List.map_nil]); first | done | rfl | (simp only [List.length_drop, List.length_take]; rfl)) ?_; (with_reducible refine (fringelaw10_alive.calls  t229 _ A18.out).mono ?_); rintro e w19 ⟨rfl, hb⟩; refine ⟨_, rfl, ?_⟩; have n0_ := Aside0.mk (below_step (by repeat (first | (with_reducible first | exact HB.out | apply below_alloc | apply pw_below_drewN | apply below_drew1) | exact HB.out)) hb); clear HB; have HB := n0_; clear n0_; (try clear hb); (try clear hb2); (try clear hk); (try clear hi)))
        go_ret
        exact ⟨by first | rfl | (simp [errW_none, errW_some] <;> rfl) | (simp [*, errW_none, errW_some] <;> rfl), by repeat (first | (with_reducible first | exact HB.out | apply below_alloc | apply pw_below_drewN | apply below_drew1) | exact HB.out)⟩
      · replace c17 := Bool.eq_false_iff.mpr c17
        subst c17
        have H1 : ((ring_Order.f kj3 a0 a1).bind fun bt230 => (if bt230.2 = 0 then (if bt230.1 < 1 then (fringelaw10_RingOrders.j1 kj3 a0 a1 a2 bt230.1 true) else (if bt230.1 = 0 then (none) else (if (Int.tmod (wrap64 (a0 - 1)) bt230.1) = 0 then ((fringeref10_Power.f kj3 a0 a1 bt230.1).bind fun t232 => (fringelaw10_RingOrders.j1 kj3 a0 a1 a2 bt230.1 (t232 != 1))) else (fringelaw10_RingOrders.j1 kj3 a0 a1 a2 bt230.1 true)))) else (fringelaw10_RingOrders.j1 kj3 a0 a1 a2 bt230.1 true))) = some r := by rw [if_neg (show ¬ (false = true) by decide)] at H; exact H
        clear H
        have H := H1
        clear H1
        replace H := Option.bind_eq_some_iff.mp H
        obtain ⟨⟨t230, t231⟩, A200, H⟩ := H
        replace H : (if t231 = 0 then (if t230 < 1 then (fringelaw10_RingOrders.j1 kj3 a0 a1 a2 t230 true) else (if t230 = 0 then (none) else (if (Int.tmod (wrap64 (a0 - 1)) t230) = 0 then ((fringeref10_Power.f kj3 a0 a1 t230).bind fun t232 => (fringelaw10_RingOrders.j1 kj3 a0 a1 a2 t230 (t232 != 1))) else (fringelaw10_RingOrders.j1 kj3 a0 a1 a2 t230 true)))) else (fringelaw10_RingOrders.j1 kj3 a0 a1 a2 t230 true)) = some r := H
        have A20 := Aside0.mk A200
        clear A200
        have HC21 := Aside0.mk H
        clear H
        go_upto_region 4 with (first | ((with_reducible refine gate_callee (f := 18) rfl ?_); refine goesL_ (some 40) rfl rfl Try.func18 (by kernel_rfl) rfl #[.int .i64 a0, .int .i64 a1] rfl (by (try simp only [List.map_toArray, List.map_cons, List.map_nil]); first | done | rfl | (simp only [List.length_drop, List.length_take]; rfl)) ?_; (with_reducible refine (ring_Order.calls kj3 a0 a1 t230 t231 _ A20.out).mono ?_); rintro e w22 ⟨rfl, hb⟩; refine ⟨_, rfl, ?_⟩; have n0_ := Aside0.mk (below_step (by repeat (first | (with_reducible first | exact HB.out | apply below_alloc | apply pw_below_drewN | apply below_drew1) | exact HB.out)) hb); clear HB; have HB := n0_; clear n0_; (try clear hb); (try clear hb2); (try clear hk); (try clear hi)))
        (try simp only [Act.put, List.setIfInBounds_toArray, List.set_cons_zero, List.set_cons_succ])
        go_cut [62] (fun v62 wc => ∃ (kq : Nat) (x62_20 : Bool), v62 = .bool x62_20 ∧ Aside0 (fringelaw10_RingOrders.j1 kq a0 a1 a2 t230 x62_20 = some r) ∧ Aside0 (kq ≤ kj3) ∧ Aside0 (Below w.heap.size w wc))
        case first =>
          have H := HC21.out
          clear HC21
          by_cases c23 : t231 = 0
          · rw [if_pos c23] at H
            have c23b0 : (t231 == 0) = true := beq_iff_eq.mpr c23
            have c23b1 : (t231 != 0) = false := bne_eq_false_iff_eq.mpr c23
            clear c23
            (first | rw [c23b0] | (simp only [i64_w, i32_w]; rw [c23b0]) | skip)
            by_cases c24 : t230 < 1
            · rw [if_pos c24] at H
              have c24b0 : decide (t230 < 1) = true := decide_eq_true c24
              clear c24
              have H' := Aside0.mk H
              clear H
              go_wp2
              go_meet
              case rel => exact ⟨_, (true), (by first | rfl | (simp; done) | (simp [*]; done)), H', ⟨by have := HJ3.out; first | omega | exact Nat.le_refl _⟩, ⟨by repeat (first | (with_reducible first | exact HB.out | apply below_alloc | apply pw_below_drewN | apply below_drew1) | exact HB.out)⟩⟩
            · rw [if_neg c24] at H
              have c24b0 : decide (t230 < 1) = false := decide_eq_false c24
              clear c24
              by_cases c25 : t230 = 0
              · rw [if_pos c25] at H
                exact absurd H (by simp)
              · rw [if_neg c25] at H
                have c25b0 : (t230 == 0) = false := beq_eq_false_iff_ne.mpr c25
                have c25b1 : (t230 != 0) = true := bne_iff_ne.mpr c25
                by_cases c26 : (Int.tmod (wrap64 (a0 - 1)) t230) = 0
                · rw [if_pos c26] at H
                  have c26b0 : ((Int.tmod (wrap64 (a0 - 1)) t230) == 0) = true := beq_iff_eq.mpr c26
                  have c26b1 : ((Int.tmod (wrap64 (a0 - 1)) t230) != 0) = false := bne_eq_false_iff_eq.mpr c26
                  clear c26
                  replace H := Option.bind_eq_some_iff.mp H
                  obtain ⟨t232, A270, H⟩ := H
                  replace H : (fringelaw10_RingOrders.j1 kj3 a0 a1 a2 t230 (t232 != 1)) = some r := H
                  have A27 := Aside0.mk A270
                  clear A270
                  have H' := Aside0.mk H
                  clear H
                  go_wp2_with (first | (go_at_call 27; (with_reducible refine (fringeref10_Power.calls kj3 a0 a1 t230 t232 _ A27.out).mono ?_); rintro e w' ⟨rfl, ⟨nd, rfl⟩⟩))
                  go_meet
                  case rel => exact ⟨_, ((t232 != 1)), (by first | rfl | (simp; done) | (simp [*]; done)), H', ⟨by have := HJ3.out; first | omega | exact Nat.le_refl _⟩, ⟨by repeat (first | (with_reducible first | exact HB.out | apply below_alloc | apply pw_below_drewN | apply below_drew1) | exact HB.out)⟩⟩
                · rw [if_neg c26] at H
                  have c26b0 : ((Int.tmod (wrap64 (a0 - 1)) t230) == 0) = false := beq_eq_false_iff_ne.mpr c26
                  have c26b1 : ((Int.tmod (wrap64 (a0 - 1)) t230) != 0) = true := bne_iff_ne.mpr c26
                  have H' := Aside0.mk H
                  clear H
                  go_wp2
                  go_meet
                  case rel => exact ⟨_, (true), (by first | rfl | (simp; done) | (simp [*]; done)), H', ⟨by have := HJ3.out; first | omega | exact Nat.le_refl _⟩, ⟨by repeat (first | (with_reducible first | exact HB.out | apply below_alloc | apply pw_below_drewN | apply below_drew1) | exact HB.out)⟩⟩
          · rw [if_neg c23] at H
            have c23b0 : (t231 == 0) = false := beq_eq_false_iff_ne.mpr c23
            have c23b1 : (t231 != 0) = true := bne_iff_ne.mpr c23
            (first | rw [c23b0] | (simp only [i64_w, i32_w]; rw [c23b0]) | skip)
            have H' := Aside0.mk H
            clear H
            go_wp2
            go_meet
            case rel => exact ⟨_, (true), (by first | rfl | (simp; done) | (simp [*]; done)), H', ⟨by have := HJ3.out; first | omega | exact Nat.le_refl _⟩, ⟨by repeat (first | (with_reducible first | exact HB.out | apply below_alloc | apply pw_below_drewN | apply below_drew1) | exact HB.out)⟩⟩
        case rest =>
          clear HC21
          try clear c1
          try clear c2
          try clear p2
          try clear c5
          try clear c6
          try clear c6b0
          try clear c6b1
          try clear p6
          try clear c8
          try clear c8b0
          try clear c8b1
          try clear c9
          try clear c9b0
          try clear c9b1
          try clear c17
          try clear c18
          try clear c23
          try clear c23b0
          try clear c23b1
          try clear c24
          try clear c24b0
          try clear c25
          try clear c25b0
          try clear c25b1
          try clear c26
          try clear c26b0
          try clear c26b1
          try clear p2
          obtain ⟨kq, x62_20, rfl, HA, HJ20, HB⟩ := hcut
          cases kq with
          | zero => exact absurd HA.out (by simp [fringelaw10_RingOrders.j1])
          | succ kj20 =>
            have H := HA.out
            clear HA
            simp only [fringelaw10_RingOrders.j1] at H
            by_cases c28 : x62_20 = true
            · subst c28
              have H1 : (some false) = some r := by rw [if_pos rfl] at H; exact H
              clear H
              have H := H1
              clear H1
              exact absurd ((Option.some.inj H).trans HRT.out) (by decide)
            · replace c28 := Bool.eq_false_iff.mpr c28
              subst c28
              have H1 : ((ring_Factors.f kj20 t230).bind fun bt233 => (if bt233.2 = 0 then (fringelaw10_RingOrders.l0 kj20 a0 a1 a2 t230 bt233.1 0) else (some false))) = some r := by rw [if_neg (show ¬ (false = true) by decide)] at H; exact H
              clear H
              have H := H1
              clear H1
              replace H := Option.bind_eq_some_iff.mp H
              obtain ⟨⟨t233, t234⟩, A290, H⟩ := H
              replace H : (if t234 = 0 then (fringelaw10_RingOrders.l0 kj20 a0 a1 a2 t230 t233 0) else (some false)) = some r := H
              have A29 := Aside0.mk A290
              clear A290
              by_cases c30 : t234 = 0
              · rw [if_pos c30] at H
                have c30b0 : (t234 == 0) = true := beq_iff_eq.mpr c30
                have c30b1 : (t234 != 0) = false := bne_eq_false_iff_eq.mpr c30
                clear c30
                have H' := Aside0.mk H
                clear H
                go_wp2_with (first | ((with_reducible refine gate_callee (f := 16) rfl ?_); refine goesL_ (some 65) rfl rfl Try.func16 (by kernel_rfl) rfl #[.int .i64 t230] rfl (by (try simp only [List.map_toArray, List.map_cons, List.map_nil]); first | done | rfl | (simp only [List.length_drop, List.length_take]; rfl)) ?_; (with_reducible refine (ring_Factors.calls kj20 t230 t233 t234 _ A29.out).mono ?_); rintro e w31 ⟨v235, rfl, ho0, hb⟩; refine ⟨_, rfl, ?_⟩; have n0_ := Aside0.mk (Kd.R_lower ho0 (below_size (by repeat (first | (with_reducible first | exact HB.out | apply below_alloc | apply pw_below_drewN | apply below_drew1) | exact HB.out)))); have n1_ := Aside0.mk (below_step (by repeat (first | (with_reducible first | exact HB.out | apply below_alloc | apply pw_below_drewN | apply below_drew1) | exact HB.out)) hb); clear HB; have HO236 := n0_; have HB := n1_; clear n0_ n1_; (try clear hb); (try clear hb2); (try clear hk); (try clear hi); (try clear ho0)))
                go_loopg [11] kj20 (fun kq v11 w' => ∃ (x11_3 : Int), v11 = .int .i64 x11_3 ∧ Aside0 (fringelaw10_RingOrders.l0 kq a0 a1 a2 t230 t233 x11_3 = some r) ∧ Aside0 (kq ≤ kj20) ∧ Aside0 (Kd.R (Kd.int .i64) 2 w' w.heap.size (fun _ => True) v235 t233) ∧ Aside0 (Below w.heap.size w w'))
                case atStart => exact ⟨(0), (by first | rfl | (simp; done) | (simp [*]; done)), H', ⟨Nat.le_refl _⟩, ⟨by (with_reducible repeat (first | apply Kd.R_alloc | apply Kd.R_drewN | apply Kd.R_drew)); exact HO236.out⟩, ⟨by repeat (first | (with_reducible first | exact HB.out | apply below_alloc | apply pw_below_drewN | apply below_drew1) | exact HB.out)⟩⟩
                case round =>
                  clear H'
                  try clear c1
                  try clear c2
                  try clear p2
                  try clear c3
                  try clear c5
                  try clear c6
                  try clear c6b0
                  try clear c6b1
                  try clear p6
                  try clear c8
                  try clear c8b0
                  try clear c8b1
                  try clear c9
                  try clear c9b0
                  try clear c9b1
                  try clear c16
                  try clear c17
                  try clear c18
                  try clear c23
                  try clear c23b0
                  try clear c23b1
                  try clear c24
                  try clear c24b0
                  try clear c25
                  try clear c25b0
                  try clear c25b1
                  try clear c26
                  try clear c26b0
                  try clear c26b1
                  try clear c28
                  try clear c30
                  try clear c30b0
                  try clear c30b1
                  try clear p2
                  try clear p6
                  obtain ⟨x11_3, rfl, HA, HK3, HO_9, HB⟩ := hrel
                  cases gk with
                  | zero => exact absurd HA.out (by simp [fringelaw10_RingOrders.l0])
                  | succ k3 =>
                    have H := HA.out
                    clear HA
                    simp only [fringelaw10_RingOrders.l0] at H
                    by_cases c32 : x11_3 < (t233.length : Int)
                    · rw [if_pos c32] at H
                      have c32b0 : decide (x11_3 < (t233.length : Int)) = true := decide_eq_true c32
                      clear c32
                      by_cases c33 : 0 ≤ x11_3
                      · rw [if_pos c33] at H
                        have c33b0 : decide (0 ≤ x11_3) = true := decide_eq_true c33
                        clear c33
                        by_cases c34 : (rd t233 x11_3) < 2
                        · rw [if_pos c34] at H
                          have c34b0 : decide ((rd t233 x11_3) < 2) = true := decide_eq_true c34
                          clear c34
                          exact absurd ((Option.some.inj H).trans HRT.out) (by decide)
                        · rw [if_neg c34] at H
                          have c34b0 : decide ((rd t233 x11_3) < 2) = false := decide_eq_false c34
                          clear c34
                          by_cases c35 : (rd t233 x11_3) = 0
                          · rw [if_pos c35] at H
                            exact absurd H (by simp)
                          · rw [if_neg c35] at H
                            have c35b0 : ((rd t233 x11_3) == 0) = false := beq_eq_false_iff_ne.mpr c35
                            have c35b1 : ((rd t233 x11_3) != 0) = true := bne_iff_ne.mpr c35
                            by_cases c36 : (Int.tmod t230 (rd t233 x11_3)) = 0
                            · rw [if_pos c36] at H
                              have c36b0 : ((Int.tmod t230 (rd t233 x11_3)) == 0) = true := beq_iff_eq.mpr c36
                              have c36b1 : ((Int.tmod t230 (rd t233 x11_3)) != 0) = false := bne_eq_false_iff_eq.mpr c36
                              clear c36
                              replace H := Option.bind_eq_some_iff.mp H
                              obtain ⟨t240, A370, H⟩ := H
                              replace H : (if t240 = 1 then (some false) else (fringelaw10_RingOrders.l0 k3 a0 a1 a2 t230 t233 (wrap64 (x11_3 + 1)))) = some r := H
                              have A37 := Aside0.mk A370
                              clear A370
                              by_cases c38 : t240 = 1
                              · rw [if_pos c38] at H
                                have c38b0 : (t240 == 1) = true := beq_iff_eq.mpr c38
                                have c38b1 : (t240 != 1) = false := bne_eq_false_iff_eq.mpr c38
                                clear c38
                                exact absurd ((Option.some.inj H).trans HRT.out) (by decide)
                              · rw [if_neg c38] at H
                                have c38b0 : (t240 == 1) = false := beq_eq_false_iff_ne.mpr c38
                                have c38b1 : (t240 != 1) = true := bne_iff_ne.mpr c38
                                have H' := Aside0.mk H
                                clear H
                                obtain ⟨Ao39, co39, eo39⟩ := Kd.R_slice HO_9.out
                                subst eo39
                                have p237 : 0 ≤ (x11_3 : Int) := of_decide_eq_true (by first | (with_reducible assumption) | assumption)
                                have q237 : x11_3 < (t233.length : Int) := of_decide_eq_true (by first | (with_reducible assumption) | assumption)
                                obtain ⟨ad237, e237, hx237_0⟩ := Kd.at_int (Kd.R_reads' HO_9.out).2.2 x11_3 p237 q237
                                cases e237
                                replace p237 := eq_true p237
                                replace q237 := eq_true q237
                                have p238 : 0 ≤ (x11_3 : Int) := of_decide_eq_true (by first | (with_reducible assumption) | assumption)
                                have q238 : x11_3 < (t233.length : Int) := of_decide_eq_true (by first | (with_reducible assumption) | assumption)
                                obtain ⟨ad238, e238, hx238_0⟩ := Kd.at_int (Kd.R_reads' HO_9.out).2.2 x11_3 p238 q238
                                obtain rfl : ad237 = ad238 := (by injection e238)
                                replace p238 := eq_true p238
                                replace q238 := eq_true q238
                                have p239 : 0 ≤ (x11_3 : Int) := of_decide_eq_true (by first | (with_reducible assumption) | assumption)
                                have q239 : x11_3 < (t233.length : Int) := of_decide_eq_true (by first | (with_reducible assumption) | assumption)
                                obtain ⟨ad239, e239, hx239_0⟩ := Kd.at_int (Kd.R_reads' HO_9.out).2.2 x11_3 p239 q239
                                obtain rfl : ad237 = ad239 := (by injection e239)
                                replace p239 := eq_true p239
                                replace q239 := eq_true q239
                                go_wp2_with (first | (go_at_call 27; (with_reducible refine (fringeref10_Power.calls k3 a0 a1 (wrap64 (Int.tdiv t230 (rd t233 x11_3))) t240 _ A37.out).mono ?_); rintro e w' ⟨rfl, ⟨nd, rfl⟩⟩))
                                go_roundg k3
                                case measure => have := HJ3.out; have := HJ20.out; have := HK3.out; omega
                                case rel => exact ⟨(wrap64 (x11_3 + 1)), (by first | rfl | (simp; done) | (simp [*]; done)), H', ⟨by have := HJ3.out; have := HJ20.out; have := HK3.out; omega⟩, ⟨by (with_reducible repeat (first | apply Kd.R_alloc | apply Kd.R_drewN | apply Kd.R_drew)); exact HO_9.out⟩, ⟨by repeat (first | (with_reducible first | exact HB.out | apply below_alloc | apply pw_below_drewN | apply below_drew1) | exact HB.out)⟩⟩
                            · rw [if_neg c36] at H
                              have c36b0 : ((Int.tmod t230 (rd t233 x11_3)) == 0) = false := beq_eq_false_iff_ne.mpr c36
                              have c36b1 : ((Int.tmod t230 (rd t233 x11_3)) != 0) = true := bne_iff_ne.mpr c36
                              exact absurd ((Option.some.inj H).trans HRT.out) (by decide)
                      · rw [if_neg c33] at H
                        exact absurd H (by simp)
                    · rw [if_neg c32] at H
                      have c32b0 : decide (x11_3 < (t233.length : Int)) = false := decide_eq_false c32
                      clear c32
                      replace H := Option.bind_eq_some_iff.mp H
                      obtain ⟨⟨t241, t242⟩, A400, H⟩ := H
                      replace H : ((ring_Order.f k3 a0 t241).bind fun bt243 => ((ring_Order.f k3 a0 a2).bind fun bt245 => (if t242 = 0 then (if bt243.2 = 0 then (if bt243.1 = (wrap64 (a0 - 1)) then (if bt245.2 = 0 then (if a2 ≥ t241 then ((fringelaw10_alive.f).bind fun t247 => (some t247)) else (if bt245.1 < (wrap64 (a0 - 1)) then ((fringelaw10_alive.f).bind fun t248 => (some t248)) else (some false))) else (some false)) else (some false)) else (some false)) else (some false)))) = some r := H
                      have A40 := Aside0.mk A400
                      clear A400
                      replace H := Option.bind_eq_some_iff.mp H
                      obtain ⟨⟨t243, t244⟩, A410, H⟩ := H
                      replace H : ((ring_Order.f k3 a0 a2).bind fun bt245 => (if t242 = 0 then (if t244 = 0 then (if t243 = (wrap64 (a0 - 1)) then (if bt245.2 = 0 then (if a2 ≥ t241 then ((fringelaw10_alive.f).bind fun t247 => (some t247)) else (if bt245.1 < (wrap64 (a0 - 1)) then ((fringelaw10_alive.f).bind fun t248 => (some t248)) else (some false))) else (some false)) else (some false)) else (some false)) else (some false))) = some r := H
                      have A41 := Aside0.mk A410
                      clear A410
                      replace H := Option.bind_eq_some_iff.mp H
                      obtain ⟨⟨t245, t246⟩, A420, H⟩ := H
                      replace H : (if t242 = 0 then (if t244 = 0 then (if t243 = (wrap64 (a0 - 1)) then (if t246 = 0 then (if a2 ≥ t241 then ((fringelaw10_alive.f).bind fun t247 => (some t247)) else (if t245 < (wrap64 (a0 - 1)) then ((fringelaw10_alive.f).bind fun t248 => (some t248)) else (some false))) else (some false)) else (some false)) else (some false)) else (some false)) = some r := H
                      have A42 := Aside0.mk A420
                      clear A420
                      by_cases c43 : t242 = 0
                      · rw [if_pos c43] at H
                        have c43b0 : (t242 == 0) = true := beq_iff_eq.mpr c43
                        have c43b1 : (t242 != 0) = false := bne_eq_false_iff_eq.mpr c43
                        clear c43
                        by_cases c44 : t244 = 0
                        · rw [if_pos c44] at H
                          have c44b0 : (t244 == 0) = true := beq_iff_eq.mpr c44
                          have c44b1 : (t244 != 0) = false := bne_eq_false_iff_eq.mpr c44
                          clear c44
                          by_cases c45 : t243 = (wrap64 (a0 - 1))
                          · rw [if_pos c45] at H
                            have c45b0 : (t243 == (wrap64 (a0 - 1))) = true := beq_iff_eq.mpr c45
                            have c45b1 : (t243 != (wrap64 (a0 - 1))) = false := bne_eq_false_iff_eq.mpr c45
                            clear c45
                            by_cases c46 : t246 = 0
                            · rw [if_pos c46] at H
                              have c46b0 : (t246 == 0) = true := beq_iff_eq.mpr c46
                              have c46b1 : (t246 != 0) = false := bne_eq_false_iff_eq.mpr c46
                              clear c46
                              by_cases c47 : a2 ≥ t241
                              · rw [if_pos c47] at H
                                have c47b0 : decide (t241 ≤ a2) = true := decide_eq_true c47
                                clear c47
                                replace H := Option.bind_eq_some_iff.mp H
                                obtain ⟨t247, A480, H⟩ := H
                                replace H : (some t247) = some r := H
                                have A48 := Aside0.mk A480
                                clear A480
                                obtain rfl := Option.some.inj H
                                obtain ⟨Ao49, co49, eo49⟩ := Kd.R_slice HO_9.out
                                subst eo49
                                go_wp2_with (first | ((with_reducible refine gate_callee (f := 20) rfl ?_); refine goesL_ (some 104) rfl rfl Try.func20 (by kernel_rfl) rfl #[.int .i64 a0] rfl (by (try simp only [List.map_toArray, List.map_cons, List.map_nil]); first | done | rfl | (simp only [List.length_drop, List.length_take]; rfl)) ?_; (with_reducible refine (ring_Generator.calls k3 a0 t241 t242 _ A40.out).mono ?_); rintro e w50 ⟨rfl, hb⟩; refine ⟨_, rfl, ?_⟩; have n0_ := Aside0.mk (Kd.R_below (by (with_reducible repeat (first | apply Kd.R_alloc | apply Kd.R_drewN | apply Kd.R_drew)); exact HO_9.out) hb); have n1_ := Aside0.mk (below_step (by repeat (first | (with_reducible first | exact HB.out | apply below_alloc | apply pw_below_drewN | apply below_drew1) | exact HB.out)) hb); clear HO_9; clear HB; have HO_9 := n0_; have HB := n1_; clear n0_ n1_; (try clear hb); (try clear hb2); (try clear hk); (try clear hi)) | ((with_reducible refine gate_callee (f := 18) rfl ?_); refine goesL_ (some 110) rfl rfl Try.func18 (by kernel_rfl) rfl #[.int .i64 a0, .int .i64 t241] rfl (by (try simp only [List.map_toArray, List.map_cons, List.map_nil]); first | done | rfl | (simp only [List.length_drop, List.length_take]; rfl)) ?_; (with_reducible refine (ring_Order.calls k3 a0 t241 t243 t244 _ A41.out).mono ?_); rintro e w51 ⟨rfl, hb⟩; refine ⟨_, rfl, ?_⟩; have n0_ := Aside0.mk (Kd.R_below (by (with_reducible repeat (first | apply Kd.R_alloc | apply Kd.R_drewN | apply Kd.R_drew)); exact HO_9.out) hb); have n1_ := Aside0.mk (below_step (by repeat (first | (with_reducible first | exact HB.out | apply below_alloc | apply pw_below_drewN | apply below_drew1) | exact HB.out)) hb); clear HO_9; clear HB; have HO_9 := n0_; have HB := n1_; clear n0_ n1_; (try clear hb); (try clear hb2); (try clear hk); (try clear hi)) | ((with_reducible refine gate_callee (f := 18) rfl ?_); refine goesL_ (some 116) rfl rfl Try.func18 (by kernel_rfl) rfl #[.int .i64 a0, .int .i64 a2] rfl (by (try simp only [List.map_toArray, List.map_cons, List.map_nil]); first | done | rfl | (simp only [List.length_drop, List.length_take]; rfl)) ?_; (with_reducible refine (ring_Order.calls k3 a0 a2 t245 t246 _ A42.out).mono ?_); rintro e w52 ⟨rfl, hb⟩; refine ⟨_, rfl, ?_⟩; have n0_ := Aside0.mk (Kd.R_below (by (with_reducible repeat (first | apply Kd.R_alloc | apply Kd.R_drewN | apply Kd.R_drew)); exact HO_9.out) hb); have n1_ := Aside0.mk (below_step (by repeat (first | (with_reducible first | exact HB.out | apply below_alloc | apply pw_below_drewN | apply below_drew1) | exact HB.out)) hb); clear HO_9; clear HB; have HO_9 := n0_; have HB := n1_; clear n0_ n1_; (try clear hb); (try clear hb2); (try clear hk); (try clear hi)) | (go_at_call 26; (with_reducible refine (fringelaw10_alive.calls  t247 _ A48.out).mono ?_); rintro e w53 ⟨rfl, hb⟩; have n0_ := Aside0.mk (Kd.R_below (by (with_reducible repeat (first | apply Kd.R_alloc | apply Kd.R_drewN | apply Kd.R_drew)); exact HO_9.out) hb); have n1_ := Aside0.mk (below_step (by repeat (first | (with_reducible first | exact HB.out | apply below_alloc | apply pw_below_drewN | apply below_drew1) | exact HB.out)) hb); clear HO_9; clear HB; have HO_9 := n0_; have HB := n1_; clear n0_ n1_; (try clear hb); (try clear hb2); (try clear hk); (try clear hi)))
                                go_ret
                                exact ⟨by first | rfl | (simp [errW_none, errW_some] <;> rfl) | (simp [*, errW_none, errW_some] <;> rfl), by repeat (first | (with_reducible first | exact HB.out | apply below_alloc | apply pw_below_drewN | apply below_drew1) | exact HB.out)⟩
                              · rw [if_neg c47] at H
                                have c47b0 : decide (t241 ≤ a2) = false := decide_eq_false c47
                                clear c47
                                by_cases c54 : t245 < (wrap64 (a0 - 1))
                                · rw [if_pos c54] at H
                                  have c54b0 : decide (t245 < (wrap64 (a0 - 1))) = true := decide_eq_true c54
                                  clear c54
                                  replace H := Option.bind_eq_some_iff.mp H
                                  obtain ⟨t248, A550, H⟩ := H
                                  replace H : (some t248) = some r := H
                                  have A55 := Aside0.mk A550
                                  clear A550
                                  obtain rfl := Option.some.inj H
                                  obtain ⟨Ao56, co56, eo56⟩ := Kd.R_slice HO_9.out
                                  subst eo56
                                  go_wp2_with (first | ((with_reducible refine gate_callee (f := 20) rfl ?_); refine goesL_ (some 104) rfl rfl Try.func20 (by kernel_rfl) rfl #[.int .i64 a0] rfl (by (try simp only [List.map_toArray, List.map_cons, List.map_nil]); first | done | rfl | (simp only [List.length_drop, List.length_take]; rfl)) ?_; (with_reducible refine (ring_Generator.calls k3 a0 t241 t242 _ A40.out).mono ?_); rintro e w57 ⟨rfl, hb⟩; refine ⟨_, rfl, ?_⟩; have n0_ := Aside0.mk (Kd.R_below (by (with_reducible repeat (first | apply Kd.R_alloc | apply Kd.R_drewN | apply Kd.R_drew)); exact HO_9.out) hb); have n1_ := Aside0.mk (below_step (by repeat (first | (with_reducible first | exact HB.out | apply below_alloc | apply pw_below_drewN | apply below_drew1) | exact HB.out)) hb); clear HO_9; clear HB; have HO_9 := n0_; have HB := n1_; clear n0_ n1_; (try clear hb); (try clear hb2); (try clear hk); (try clear hi)) | ((with_reducible refine gate_callee (f := 18) rfl ?_); refine goesL_ (some 110) rfl rfl Try.func18 (by kernel_rfl) rfl #[.int .i64 a0, .int .i64 t241] rfl (by (try simp only [List.map_toArray, List.map_cons, List.map_nil]); first | done | rfl | (simp only [List.length_drop, List.length_take]; rfl)) ?_; (with_reducible refine (ring_Order.calls k3 a0 t241 t243 t244 _ A41.out).mono ?_); rintro e w58 ⟨rfl, hb⟩; refine ⟨_, rfl, ?_⟩; have n0_ := Aside0.mk (Kd.R_below (by (with_reducible repeat (first | apply Kd.R_alloc | apply Kd.R_drewN | apply Kd.R_drew)); exact HO_9.out) hb); have n1_ := Aside0.mk (below_step (by repeat (first | (with_reducible first | exact HB.out | apply below_alloc | apply pw_below_drewN | apply below_drew1) | exact HB.out)) hb); clear HO_9; clear HB; have HO_9 := n0_; have HB := n1_; clear n0_ n1_; (try clear hb); (try clear hb2); (try clear hk); (try clear hi)) | ((with_reducible refine gate_callee (f := 18) rfl ?_); refine goesL_ (some 116) rfl rfl Try.func18 (by kernel_rfl) rfl #[.int .i64 a0, .int .i64 a2] rfl (by (try simp only [List.map_toArray, List.map_cons, List.map_nil]); first | done | rfl | (simp only [List.length_drop, List.length_take]; rfl)) ?_; (with_reducible refine (ring_Order.calls k3 a0 a2 t245 t246 _ A42.out).mono ?_); rintro e w59 ⟨rfl, hb⟩; refine ⟨_, rfl, ?_⟩; have n0_ := Aside0.mk (Kd.R_below (by (with_reducible repeat (first | apply Kd.R_alloc | apply Kd.R_drewN | apply Kd.R_drew)); exact HO_9.out) hb); have n1_ := Aside0.mk (below_step (by repeat (first | (with_reducible first | exact HB.out | apply below_alloc | apply pw_below_drewN | apply below_drew1) | exact HB.out)) hb); clear HO_9; clear HB; have HO_9 := n0_; have HB := n1_; clear n0_ n1_; (try clear hb); (try clear hb2); (try clear hk); (try clear hi)) | (go_at_call 26; (with_reducible refine (fringelaw10_alive.calls  t248 _ A55.out).mono ?_); rintro e w60 ⟨rfl, hb⟩; have n0_ := Aside0.mk (Kd.R_below (by (with_reducible repeat (first | apply Kd.R_alloc | apply Kd.R_drewN | apply Kd.R_drew)); exact HO_9.out) hb); have n1_ := Aside0.mk (below_step (by repeat (first | (with_reducible first | exact HB.out | apply below_alloc | apply pw_below_drewN | apply below_drew1) | exact HB.out)) hb); clear HO_9; clear HB; have HO_9 := n0_; have HB := n1_; clear n0_ n1_; (try clear hb); (try clear hb2); (try clear hk); (try clear hi)))
                                  go_ret
                                  exact ⟨by first | rfl | (simp [errW_none, errW_some] <;> rfl) | (simp [*, errW_none, errW_some] <;> rfl), by repeat (first | (with_reducible first | exact HB.out | apply below_alloc | apply pw_below_drewN | apply below_drew1) | exact HB.out)⟩
                                · rw [if_neg c54] at H
                                  have c54b0 : decide (t245 < (wrap64 (a0 - 1))) = false := decide_eq_false c54
                                  clear c54
                                  exact absurd ((Option.some.inj H).trans HRT.out) (by decide)
                            · rw [if_neg c46] at H
                              have c46b0 : (t246 == 0) = false := beq_eq_false_iff_ne.mpr c46
                              have c46b1 : (t246 != 0) = true := bne_iff_ne.mpr c46
                              exact absurd ((Option.some.inj H).trans HRT.out) (by decide)
                          · rw [if_neg c45] at H
                            have c45b0 : (t243 == (wrap64 (a0 - 1))) = false := beq_eq_false_iff_ne.mpr c45
                            have c45b1 : (t243 != (wrap64 (a0 - 1))) = true := bne_iff_ne.mpr c45
                            exact absurd ((Option.some.inj H).trans HRT.out) (by decide)
                        · rw [if_neg c44] at H
                          have c44b0 : (t244 == 0) = false := beq_eq_false_iff_ne.mpr c44
                          have c44b1 : (t244 != 0) = true := bne_iff_ne.mpr c44
                          exact absurd ((Option.some.inj H).trans HRT.out) (by decide)
                      · rw [if_neg c43] at H
                        have c43b0 : (t242 == 0) = false := beq_eq_false_iff_ne.mpr c43
                        have c43b1 : (t242 != 0) = true := bne_iff_ne.mpr c43
                        exact absurd ((Option.some.inj H).trans HRT.out) (by decide)
              · rw [if_neg c30] at H
                have c30b0 : (t234 == 0) = false := beq_eq_false_iff_ne.mpr c30
                have c30b1 : (t234 != 0) = true := bne_iff_ne.mpr c30
                exact absurd ((Option.some.inj H).trans HRT.out) (by decide)

/-- THE ONE PURE STATEMENT of fringelaw10_RingOrders: yours. -/
def fringelaw10_RingOrders.Pure : Prop := ∀ (a0 : Int) (a1 : Int) (a2 : Int), (Lit.int .i64 a0).wf = true → (Lit.int .i64 a1).wf = true → (Lit.int .i64 a2).wf = true → ∃ k, fringelaw10_RingOrders.f k a0 a1 a2 = some true
theorem fringelaw10_RingOrders.walk (P : fringelaw10_RingOrders.Pure) (a0 : Int) (a1 : Int) (a2 : Int) (w : World) (w0 : (Lit.int .i64 a0).wf = true) (w1 : (Lit.int .i64 a1).wf = true) (w2 : (Lit.int .i64 a2).wf = true) :
    Calls Try.prog 5 #[.int .i64 a0, .int .i64 a1, .int .i64 a2] w fun e w' => e = .returned (.bool true) ∧ Below w.heap.size w w' := by
  obtain ⟨k, h⟩ := P a0 a1 a2 w0 w1 w2
  refine (fringelaw10_RingOrders.calls k a0 a1 a2 true w rfl h).mono ?_
  rintro e w' ⟨rfl, hd⟩
  exact ⟨rfl, hd⟩

end Go.Proofs.Ytehbmpdmdfiagaa.PAll
