-- Written by a program of this session, after the kit's print
import Derived.Test.YtbopgopggnagpaaPAllx0
import Derived.Test.YtbopgopggnagpaaPAllx10
import Derived.Test.YtbopgopggnagpaaPAllx11
import Derived.Test.YtbopgopggnagpaaPAllx14
import Derived.Test.YtbopgopggnagpaaPAllx17
import Derived.Test.YtbopgopggnagpaaPAllx18
import Derived.Test.YtbopgopggnagpaaPAllx28
import Derived.Test.YtbopgopggnagpaaPAllx29
import Derived.Test.YtbopgopggnagpaaPAllx30
namespace Go.Proofs.Ytbopgopggnagpaa.PAll
open Go.RowKit Go.Proofs.YtbopgopggnagpaaW.PrintWords Go.Proofs.YtbopgopggnagpaaW.PrintLast Go.Proofs.YtbopgopggnagpaaW.PrintMore
attribute [local go_sem] max2_int min2_int max_two min_two max_three min_three max_four min_four   -- for this text's walks alone
set_option linter.unusedVariables false
set_option linter.unusedSimpArgs false

/-! ### fringeref17_SameLists: function 19 -/
def fringeref17_SameLists.l0 : Nat → List (List Int) → List (List Int) → Int → Option (Bool)
  | 0, _, _, _ => none
  | k + 1, x0, x1, x5 => if x5 < (x0.length : Int) then (if 0 ≤ x5 then (if x5 < (x1.length : Int) then ((fringeref13_Same.f k (rd_L1 x0 x5) (rd_L1 x1 x5)).bind fun t328 => (if t328 = true then (fringeref17_SameLists.l0 k x0 x1 (wrap64 (x5 + 1))) else (some false))) else (none)) else (none)) else (some true)
def fringeref17_SameLists.f (k : Nat) (l0 : List (List Int)) (l1 : List (List Int)) : Option (Bool) := if (l0.length : Int) = (l1.length : Int) then (fringeref17_SameLists.l0 k l0 l1 0) else (some false)
theorem fringeref17_SameLists.mono_l : ∀ k, (∀ y0 y1 y2, LeO (fringeref17_SameLists.l0 k y0 y1 y2) (fringeref17_SameLists.l0 (k + 1) y0 y1 y2))
  | 0 => fun _ _ _ r h => by simp [fringeref17_SameLists.l0] at h
  | k + 1 => by
    have ih0 := fringeref17_SameLists.mono_l k
    · intro y0 y1 y2
      unfold fringeref17_SameLists.l0
      repeat' first
      | (with_reducible exact ih0 _ _ _)
      | (with_reducible exact fringeref13_Same.mono _ _ _)
      | (with_reducible exact LeO.refl _)
      | (with_reducible exact LeO.none _)
      | (with_reducible refine LeO.ite ?_ ?_)
      | (with_reducible refine LeO.bind ?_ (fun _ => ?_))
      | exact ih0 _ _ _
      | exact fringeref13_Same.mono _ _ _
      | exact LeO.none _
      | refine LeO.ite ?_ ?_
      | refine LeO.bind ?_ (fun _ => ?_)
theorem fringeref17_SameLists.mono : ∀ a0 a1 k, LeO (fringeref17_SameLists.f k a0 a1) (fringeref17_SameLists.f (k + 1) a0 a1) := by
  intro a0 a1 k
  have ih0 := fringeref17_SameLists.mono_l k
  unfold fringeref17_SameLists.f
  repeat' first
      | (with_reducible exact ih0 _ _ _)
      | (with_reducible exact fringeref13_Same.mono _ _ _)
      | (with_reducible exact LeO.refl _)
      | (with_reducible exact LeO.none _)
      | (with_reducible refine LeO.ite ?_ ?_)
      | (with_reducible refine LeO.bind ?_ (fun _ => ?_))
      | exact ih0 _ _ _
      | exact fringeref13_Same.mono _ _ _
      | exact LeO.none _
      | refine LeO.ite ?_ ?_
      | refine LeO.bind ?_ (fun _ => ?_)
set_option maxHeartbeats 8000000 in
set_option maxRecDepth 100000 in
theorem fringeref17_SameLists.calls (k : Nat) (A0 : Option Addr) (c0 : Nat) (l0 : List (List Int)) (A1 : Option Addr) (c1 : Nat) (l1 : List (List Int)) (r : Bool) (w : World) (hr0 : Kd.C (Kd.slice 3 (Kd.int .i64)) w A0 l0.length l0) (hc0 : l0.length ≤ c0) (hr1 : Kd.C (Kd.slice 3 (Kd.int .i64)) w A1 l1.length l1) (hc1 : l1.length ≤ c1) (h : fringeref17_SameLists.f k l0 l1 = some r) :
    Calls Try.prog 19 #[.slice A0 l0.length c0, .slice A1 l1.length c1] w fun e w' => e = .returned (.bool r) ∧ Drawn0 w w' := by
  have HR0 := Aside0.mk hr0
  have HC0 := Aside0.mk hc0
  clear hr0 hc0
  have HR1 := Aside0.mk hr1
  have HC1 := Aside0.mk hc1
  clear hr1 hc1
  have H : (if (l0.length : Int) = (l1.length : Int) then (fringeref17_SameLists.l0 k l0 l1 0) else (some false)) = some r := h
  clear h
  by_cases c3 : (l0.length : Int) = (l1.length : Int)
  rotate_left
  · rw [if_neg c3] at H
    have c3b0 : ((l0.length : Int) == (l1.length : Int)) = false := beq_eq_false_iff_ne.mpr c3
    have c3b1 : ((l0.length : Int) != (l1.length : Int)) = true := bne_iff_ne.mpr c3
    have c3b2 : (l0.length == l1.length) = false := by first | simpa using c3 | (simp at c3 ⊢; omega)
    obtain rfl := Option.some.inj H
    go_enter Try.func19, Try.ntmps19
    go_wp2
    repeat (go_quiet (fail); try go_wp2)
    go_ret
    exact ⟨by first | rfl | (simp; done) | (simp [*]; done) | (simp [i64_w]; done), by repeat (first | exact Drawn0.refl _ | apply Drawn0.step)⟩
  rw [if_pos c3] at H
  have c3b0 : ((l0.length : Int) == (l1.length : Int)) = true := beq_iff_eq.mpr c3
  have c3b1 : ((l0.length : Int) != (l1.length : Int)) = false := bne_eq_false_iff_eq.mpr c3
  have c3b2 : (l0.length == l1.length) = true := by first | simpa using c3 | (simp at c3 ⊢; omega)
  clear c3
  have H' := Aside0.mk H
  clear H
  go_enter Try.func19, Try.ntmps19
  go_wp2
  repeat (go_quiet (fail); try go_wp2)
  go_loopg [5] k (fun kq v5 w' => ∃ (x5_1 : Int), v5 = .int .i64 x5_1 ∧ Aside0 (fringeref17_SameLists.l0 kq l0 l1 x5_1 = some r) ∧ Aside0 (kq ≤ k) ∧ Drawn0 w w')
  case atStart => exact ⟨(0), (by first | rfl | (simp; done) | (simp [*]; done) | (simp [i64_w]; done)), H', ⟨Nat.le_refl _⟩, by repeat (first | exact Drawn0.refl _ | apply Drawn0.step)⟩
  case round =>
    clear H'
    try clear c1
    try clear p2
    try clear c3
    try clear c3b0
    try clear c3b1
    try clear c3b2
    obtain ⟨x5_1, rfl, HA, HK1, ⟨m1, rfl⟩⟩ := hrel
    cases gk with
    | zero => exact absurd HA.out (by simp [fringeref17_SameLists.l0])
    | succ k1 =>
      have H := HA.out
      clear HA
      simp only [fringeref17_SameLists.l0] at H
      by_cases c4 : x5_1 < (l0.length : Int)
      rotate_left
      · rw [if_neg c4] at H
        have c4b0 : decide (x5_1 < (l0.length : Int)) = false := decide_eq_false c4
        clear c4
        obtain rfl := Option.some.inj H
        go_wp2
        repeat (go_quiet (fail); try go_wp2)
        go_ret
        exact ⟨by first | rfl | (simp; done) | (simp [*]; done) | (simp [i64_w]; done), by repeat (first | exact Drawn0.refl _ | apply Drawn0.step)⟩
      rw [if_pos c4] at H
      have c4b0 : decide (x5_1 < (l0.length : Int)) = true := decide_eq_true c4
      clear c4
      by_cases c5 : 0 ≤ x5_1
      rotate_left
      · rw [if_neg c5] at H
        exact absurd H (by simp)
      rw [if_pos c5] at H
      have c5b0 : decide (0 ≤ x5_1) = true := decide_eq_true c5
      clear c5
      by_cases c6 : x5_1 < (l1.length : Int)
      rotate_left
      · rw [if_neg c6] at H
        exact absurd H (by simp)
      rw [if_pos c6] at H
      have c6b0 : decide (x5_1 < (l1.length : Int)) = true := decide_eq_true c6
      clear c6
      replace H := Option.bind_eq_some_iff.mp H
      obtain ⟨t328, A70, H⟩ := H
      replace H : (if t328 = true then (fringeref17_SameLists.l0 k1 l0 l1 (wrap64 (x5_1 + 1))) else (some false)) = some r := H
      have A7 := Aside0.mk A70
      clear A70
      by_cases c8 : t328 = true
      rotate_left
      · replace c8 := Bool.eq_false_iff.mpr c8
        subst c8
        have H1 : (some false) = some r := by rw [if_neg (show ¬ (false = true) by decide)] at H; exact H
        clear H
        have H := H1
        clear H1
        obtain rfl := Option.some.inj H
        have p326 : 0 ≤ (x5_1 : Int) := of_decide_eq_true (by first | (with_reducible assumption) | assumption)
        have q326 : x5_1 < (l0.length : Int) := of_decide_eq_true (by first | (with_reducible assumption) | assumption)
        obtain ⟨ad326, A326_0, c326_0, e326, hx326_0, hl326_0, hi326_0⟩ := at_L1 HR0.out x5_1 p326 q326
        cases e326
        have HR326_0 := Aside0.mk hi326_0
        have HC326_0 := Aside0.mk hl326_0
        clear hi326_0 hl326_0
        replace p326 := eq_true p326
        replace q326 := eq_true q326
        have p327 : 0 ≤ (x5_1 : Int) := of_decide_eq_true (by first | (with_reducible assumption) | assumption)
        have q327 : x5_1 < (l1.length : Int) := of_decide_eq_true (by first | (with_reducible assumption) | assumption)
        obtain ⟨ad327, A327_0, c327_0, e327, hx327_0, hl327_0, hi327_0⟩ := at_L1 HR1.out x5_1 p327 q327
        cases e327
        have HR327_0 := Aside0.mk hi327_0
        have HC327_0 := Aside0.mk hl327_0
        clear hi327_0 hl327_0
        replace p327 := eq_true p327
        replace q327 := eq_true q327
        go_wp2_with (first | (go_at_call 20; (with_reducible refine (fringeref13_Same.calls k1 _ _ (rd_L1 l0 x5_1) _ _ (rd_L1 l1 x5_1) false _ ?side1 ?side2 ?side3 ?side4 A7.out).mono ?_); (case side1 => repeat (first | exact HR326_0.out | (with_reducible refine Kd.C_alloc ?_ _) | (with_reducible refine Kd.C_drewN ?_ _) | (with_reducible refine Kd.C_drew ?_))); (case side2 => exact HC326_0.out); (case side3 => repeat (first | exact HR327_0.out | (with_reducible refine Kd.C_alloc ?_ _) | (with_reducible refine Kd.C_drewN ?_ _) | (with_reducible refine Kd.C_drew ?_))); (case side4 => exact HC327_0.out); rintro e w' ⟨rfl, ⟨nd, rfl⟩⟩; (try first | exact ⟨rfl, _, World.drewN_drewN _ _ _⟩ | exact ⟨rfl, _, Eq.trans (World.drewN_drewN _ _ _) (congrArg (World.drewN _) (Nat.add_assoc _ _ _))⟩)))
        repeat (go_quiet (first | (go_at_call 20; (with_reducible refine (fringeref13_Same.calls k1 _ _ (rd_L1 l0 x5_1) _ _ (rd_L1 l1 x5_1) false _ ?side1 ?side2 ?side3 ?side4 A7.out).mono ?_); (case side1 => repeat (first | exact HR326_0.out | (with_reducible refine Kd.C_alloc ?_ _) | (with_reducible refine Kd.C_drewN ?_ _) | (with_reducible refine Kd.C_drew ?_))); (case side2 => exact HC326_0.out); (case side3 => repeat (first | exact HR327_0.out | (with_reducible refine Kd.C_alloc ?_ _) | (with_reducible refine Kd.C_drewN ?_ _) | (with_reducible refine Kd.C_drew ?_))); (case side4 => exact HC327_0.out); rintro e w' ⟨rfl, ⟨nd, rfl⟩⟩; (try first | exact ⟨rfl, _, World.drewN_drewN _ _ _⟩ | exact ⟨rfl, _, Eq.trans (World.drewN_drewN _ _ _) (congrArg (World.drewN _) (Nat.add_assoc _ _ _))⟩))); try go_wp2_with (first | (go_at_call 20; (with_reducible refine (fringeref13_Same.calls k1 _ _ (rd_L1 l0 x5_1) _ _ (rd_L1 l1 x5_1) false _ ?side1 ?side2 ?side3 ?side4 A7.out).mono ?_); (case side1 => repeat (first | exact HR326_0.out | (with_reducible refine Kd.C_alloc ?_ _) | (with_reducible refine Kd.C_drewN ?_ _) | (with_reducible refine Kd.C_drew ?_))); (case side2 => exact HC326_0.out); (case side3 => repeat (first | exact HR327_0.out | (with_reducible refine Kd.C_alloc ?_ _) | (with_reducible refine Kd.C_drewN ?_ _) | (with_reducible refine Kd.C_drew ?_))); (case side4 => exact HC327_0.out); rintro e w' ⟨rfl, ⟨nd, rfl⟩⟩; (try first | exact ⟨rfl, _, World.drewN_drewN _ _ _⟩ | exact ⟨rfl, _, Eq.trans (World.drewN_drewN _ _ _) (congrArg (World.drewN _) (Nat.add_assoc _ _ _))⟩))))
        go_ret
        exact ⟨by first | rfl | (simp; done) | (simp [*]; done) | (simp [i64_w]; done), by repeat (first | exact Drawn0.refl _ | apply Drawn0.step)⟩
      subst c8
      have H1 : (fringeref17_SameLists.l0 k1 l0 l1 (wrap64 (x5_1 + 1))) = some r := by rw [if_pos rfl] at H; exact H
      clear H
      have H := H1
      clear H1
      have H' := Aside0.mk H
      clear H
      have p326 : 0 ≤ (x5_1 : Int) := of_decide_eq_true (by first | (with_reducible assumption) | assumption)
      have q326 : x5_1 < (l0.length : Int) := of_decide_eq_true (by first | (with_reducible assumption) | assumption)
      obtain ⟨ad326, A326_0, c326_0, e326, hx326_0, hl326_0, hi326_0⟩ := at_L1 HR0.out x5_1 p326 q326
      cases e326
      have HR326_0 := Aside0.mk hi326_0
      have HC326_0 := Aside0.mk hl326_0
      clear hi326_0 hl326_0
      replace p326 := eq_true p326
      replace q326 := eq_true q326
      have p327 : 0 ≤ (x5_1 : Int) := of_decide_eq_true (by first | (with_reducible assumption) | assumption)
      have q327 : x5_1 < (l1.length : Int) := of_decide_eq_true (by first | (with_reducible assumption) | assumption)
      obtain ⟨ad327, A327_0, c327_0, e327, hx327_0, hl327_0, hi327_0⟩ := at_L1 HR1.out x5_1 p327 q327
      cases e327
      have HR327_0 := Aside0.mk hi327_0
      have HC327_0 := Aside0.mk hl327_0
      clear hi327_0 hl327_0
      replace p327 := eq_true p327
      replace q327 := eq_true q327
      go_wp2_with (first | (go_at_call 20; (with_reducible refine (fringeref13_Same.calls k1 _ _ (rd_L1 l0 x5_1) _ _ (rd_L1 l1 x5_1) true _ ?side1 ?side2 ?side3 ?side4 A7.out).mono ?_); (case side1 => repeat (first | exact HR326_0.out | (with_reducible refine Kd.C_alloc ?_ _) | (with_reducible refine Kd.C_drewN ?_ _) | (with_reducible refine Kd.C_drew ?_))); (case side2 => exact HC326_0.out); (case side3 => repeat (first | exact HR327_0.out | (with_reducible refine Kd.C_alloc ?_ _) | (with_reducible refine Kd.C_drewN ?_ _) | (with_reducible refine Kd.C_drew ?_))); (case side4 => exact HC327_0.out); rintro e w' ⟨rfl, ⟨nd, rfl⟩⟩; (try first | exact ⟨rfl, _, World.drewN_drewN _ _ _⟩ | exact ⟨rfl, _, Eq.trans (World.drewN_drewN _ _ _) (congrArg (World.drewN _) (Nat.add_assoc _ _ _))⟩)))
      repeat (go_quiet (first | (go_at_call 20; (with_reducible refine (fringeref13_Same.calls k1 _ _ (rd_L1 l0 x5_1) _ _ (rd_L1 l1 x5_1) true _ ?side1 ?side2 ?side3 ?side4 A7.out).mono ?_); (case side1 => repeat (first | exact HR326_0.out | (with_reducible refine Kd.C_alloc ?_ _) | (with_reducible refine Kd.C_drewN ?_ _) | (with_reducible refine Kd.C_drew ?_))); (case side2 => exact HC326_0.out); (case side3 => repeat (first | exact HR327_0.out | (with_reducible refine Kd.C_alloc ?_ _) | (with_reducible refine Kd.C_drewN ?_ _) | (with_reducible refine Kd.C_drew ?_))); (case side4 => exact HC327_0.out); rintro e w' ⟨rfl, ⟨nd, rfl⟩⟩; (try first | exact ⟨rfl, _, World.drewN_drewN _ _ _⟩ | exact ⟨rfl, _, Eq.trans (World.drewN_drewN _ _ _) (congrArg (World.drewN _) (Nat.add_assoc _ _ _))⟩))); try go_wp2_with (first | (go_at_call 20; (with_reducible refine (fringeref13_Same.calls k1 _ _ (rd_L1 l0 x5_1) _ _ (rd_L1 l1 x5_1) true _ ?side1 ?side2 ?side3 ?side4 A7.out).mono ?_); (case side1 => repeat (first | exact HR326_0.out | (with_reducible refine Kd.C_alloc ?_ _) | (with_reducible refine Kd.C_drewN ?_ _) | (with_reducible refine Kd.C_drew ?_))); (case side2 => exact HC326_0.out); (case side3 => repeat (first | exact HR327_0.out | (with_reducible refine Kd.C_alloc ?_ _) | (with_reducible refine Kd.C_drewN ?_ _) | (with_reducible refine Kd.C_drew ?_))); (case side4 => exact HC327_0.out); rintro e w' ⟨rfl, ⟨nd, rfl⟩⟩; (try first | exact ⟨rfl, _, World.drewN_drewN _ _ _⟩ | exact ⟨rfl, _, Eq.trans (World.drewN_drewN _ _ _) (congrArg (World.drewN _) (Nat.add_assoc _ _ _))⟩))))
      go_roundg k1
      case measure => have := HK1.out; omega
      case rel => exact ⟨(wrap64 (x5_1 + 1)), (by first | rfl | (simp; done) | (simp [*]; done) | (simp [i64_w]; done)), H', ⟨by have := HK1.out; omega⟩, by repeat (first | exact Drawn0.refl _ | apply Drawn0.step)⟩

/-! ### fringelaw17_CrossSpectra: function 3 -/
def fringelaw17_CrossSpectra.j0 : Nat → List Int → List Int → List Int → Bool → Option (Bool)
  | 0, _, _, _, _ => none
  | k + 1, x0, x1, x2, x36 => if x36 = true then (some true) else ((some (([] : List Int) : List Int)).bind fun y330 => (if y330.length + x0.length < 17592186044416 then ((some (y330 ++ x0 : List Int)).bind fun y333 => ((some (([] : List Int) : List Int)).bind fun y336 => (if y336.length + x1.length < 17592186044416 then ((some (y336 ++ x1 : List Int)).bind fun y339 => ((cross_Spectrum.f k y333).bind fun bt342 => ((fringeref17_Spectrum.f k x0).bind fun bt346 => ((cross_Product.f k y339 x2).bind fun bt350 => ((fringeref17_Product.f k x1 x2).bind fun bt354 => ((cross_Values.f k y339).bind fun bt358 => ((fringeref17_Values.f k x1).bind fun bt362 => ((cross_Pieces.f y333).bind fun bt366 => ((fringeref17_Pieces.f k x0).bind fun bt370 => ((fringeref17_Same.f k bt342.1 bt346.1).bind fun t374 => (if t374 = true then (if bt342.2 = bt346.2 then ((fringeref17_Same.f k bt350.1 bt354.1).bind fun t375 => (if t375 = true then (if bt350.2 = bt354.2 then ((fringeref17_Same.f k bt358.1 bt362.1).bind fun t376 => (if t376 = true then (if bt358.2 = bt362.2 then ((fringeref17_SameLists.f k bt366.1 bt370.1).bind fun t377 => (if t377 = true then (if bt366.2 = bt370.2 then ((fringeref13_Same.f k y333 x0).bind fun t378 => (if t378 = true then ((fringeref17_Same.f k y339 x1).bind fun t379 => (some t379)) else (some false))) else (some false)) else (some false))) else (some false)) else (some false))) else (some false)) else (some false))) else (some false)) else (some false)))))))))))) else (none)))) else (none)))
def fringelaw17_CrossSpectra.f (k : Nat) (l0 : List Int) (l1 : List Int) (l2 : List Int) : Option (Bool) := (fringeref13_Long.f l0).bind fun t329 => (if t329 = true then (fringelaw17_CrossSpectra.j0 k l0 l1 l2 true) else (if (l1.length : Int) > 300 then (fringelaw17_CrossSpectra.j0 k l0 l1 l2 true) else (fringelaw17_CrossSpectra.j0 k l0 l1 l2 (decide ((l2.length : Int) > 300)))))
theorem fringelaw17_CrossSpectra.mono_l : ∀ k, (∀ y0 y1 y2 y3, LeO (fringelaw17_CrossSpectra.j0 k y0 y1 y2 y3) (fringelaw17_CrossSpectra.j0 (k + 1) y0 y1 y2 y3))
  | 0 => fun _ _ _ _ r h => by simp [fringelaw17_CrossSpectra.j0] at h
  | k + 1 => by
    have ih0 := fringelaw17_CrossSpectra.mono_l k
    · intro y0 y1 y2 y3
      unfold fringelaw17_CrossSpectra.j0
      repeat' first
      | (with_reducible exact ih0 _ _ _ _)
      | (with_reducible exact cross_Product.mono _ _ _)
      | (with_reducible exact cross_Spectrum.mono _ _)
      | (with_reducible exact cross_Values.mono _ _)
      | (with_reducible exact fringeref13_Same.mono _ _ _)
      | (with_reducible exact fringeref17_Pieces.mono _ _)
      | (with_reducible exact fringeref17_Product.mono _ _ _)
      | (with_reducible exact fringeref17_Same.mono _ _ _)
      | (with_reducible exact fringeref17_SameLists.mono _ _ _)
      | (with_reducible exact fringeref17_Spectrum.mono _ _)
      | (with_reducible exact fringeref17_Values.mono _ _)
      | (with_reducible exact LeO.refl _)
      | (with_reducible exact LeO.none _)
      | (with_reducible refine LeO.ite ?_ ?_)
      | (with_reducible refine LeO.bind ?_ (fun _ => ?_))
      | exact ih0 _ _ _ _
      | exact cross_Product.mono _ _ _
      | exact cross_Spectrum.mono _ _
      | exact cross_Values.mono _ _
      | exact fringeref13_Same.mono _ _ _
      | exact fringeref17_Pieces.mono _ _
      | exact fringeref17_Product.mono _ _ _
      | exact fringeref17_Same.mono _ _ _
      | exact fringeref17_SameLists.mono _ _ _
      | exact fringeref17_Spectrum.mono _ _
      | exact fringeref17_Values.mono _ _
      | exact LeO.none _
      | refine LeO.ite ?_ ?_
      | refine LeO.bind ?_ (fun _ => ?_)
theorem fringelaw17_CrossSpectra.mono : ∀ a0 a1 a2 k, LeO (fringelaw17_CrossSpectra.f k a0 a1 a2) (fringelaw17_CrossSpectra.f (k + 1) a0 a1 a2) := by
  intro a0 a1 a2 k
  have ih0 := fringelaw17_CrossSpectra.mono_l k
  unfold fringelaw17_CrossSpectra.f
  repeat' first
      | (with_reducible exact ih0 _ _ _ _)
      | (with_reducible exact cross_Product.mono _ _ _)
      | (with_reducible exact cross_Spectrum.mono _ _)
      | (with_reducible exact cross_Values.mono _ _)
      | (with_reducible exact fringeref13_Same.mono _ _ _)
      | (with_reducible exact fringeref17_Pieces.mono _ _)
      | (with_reducible exact fringeref17_Product.mono _ _ _)
      | (with_reducible exact fringeref17_Same.mono _ _ _)
      | (with_reducible exact fringeref17_SameLists.mono _ _ _)
      | (with_reducible exact fringeref17_Spectrum.mono _ _)
      | (with_reducible exact fringeref17_Values.mono _ _)
      | (with_reducible exact LeO.refl _)
      | (with_reducible exact LeO.none _)
      | (with_reducible refine LeO.ite ?_ ?_)
      | (with_reducible refine LeO.bind ?_ (fun _ => ?_))
      | exact ih0 _ _ _ _
      | exact cross_Product.mono _ _ _
      | exact cross_Spectrum.mono _ _
      | exact cross_Values.mono _ _
      | exact fringeref13_Same.mono _ _ _
      | exact fringeref17_Pieces.mono _ _
      | exact fringeref17_Product.mono _ _ _
      | exact fringeref17_Same.mono _ _ _
      | exact fringeref17_SameLists.mono _ _ _
      | exact fringeref17_Spectrum.mono _ _
      | exact fringeref17_Values.mono _ _
      | exact LeO.none _
      | refine LeO.ite ?_ ?_
      | refine LeO.bind ?_ (fun _ => ?_)
set_option maxHeartbeats 8000000 in
set_option maxRecDepth 100000 in
theorem fringelaw17_CrossSpectra.calls (k : Nat) (A0 : Option Addr) (c0 : Nat) (l0 : List Int) (A1 : Option Addr) (c1 : Nat) (l1 : List Int) (A2 : Option Addr) (c2 : Nat) (l2 : List Int) (r : Bool) (w : World) (hr0 : Kd.C (Kd.int .i64) w A0 l0.length l0) (hc0 : l0.length ≤ c0) (hr1 : Kd.C (Kd.int .i64) w A1 l1.length l1) (hc1 : l1.length ≤ c1) (hr2 : Kd.C (Kd.int .i64) w A2 l2.length l2) (hc2 : l2.length ≤ c2) (hrt : r = true) (h : fringelaw17_CrossSpectra.f k l0 l1 l2 = some r) :
    Calls Try.prog 3 #[.slice A0 l0.length c0, .slice A1 l1.length c1, .slice A2 l2.length c2] w fun e w' => e = .returned (.bool r) ∧ Below w.heap.size w w' := by
  have HR0 := Aside0.mk hr0
  have HC0 := Aside0.mk hc0
  clear hr0 hc0
  have HR1 := Aside0.mk hr1
  have HC1 := Aside0.mk hc1
  clear hr1 hc1
  have HR2 := Aside0.mk hr2
  have HC2 := Aside0.mk hc2
  clear hr2 hc2
  have HB := Aside0.mk (Below.refl w.heap.size w)
  have HRT := Aside0.mk hrt
  clear hrt
  have H : ((fringeref13_Long.f l0).bind fun t329 => (if t329 = true then (fringelaw17_CrossSpectra.j0 k l0 l1 l2 true) else (if (l1.length : Int) > 300 then (fringelaw17_CrossSpectra.j0 k l0 l1 l2 true) else (fringelaw17_CrossSpectra.j0 k l0 l1 l2 (decide ((l2.length : Int) > 300)))))) = some r := h
  clear h
  have HC4 := Aside0.mk H
  clear H
  go_enter Try.func3, Try.ntmps3
  go_upto_region 1 with (fail)
  go_cut [36] (fun v36 wc => ∃ (kq : Nat) (x36_3 : Bool), v36 = .bool x36_3 ∧ Aside0 (fringelaw17_CrossSpectra.j0 kq l0 l1 l2 x36_3 = some r) ∧ Aside0 (kq ≤ k) ∧ Aside0 (Below w.heap.size w wc))
  case first =>
    have H := HC4.out
    clear HC4
    replace H := Option.bind_eq_some_iff.mp H
    obtain ⟨t329, A50, H⟩ := H
    replace H : (if t329 = true then (fringelaw17_CrossSpectra.j0 k l0 l1 l2 true) else (if (l1.length : Int) > 300 then (fringelaw17_CrossSpectra.j0 k l0 l1 l2 true) else (fringelaw17_CrossSpectra.j0 k l0 l1 l2 (decide ((l2.length : Int) > 300))))) = some r := H
    have A5 := Aside0.mk A50
    clear A50
    by_cases c6 : t329 = true
    · subst c6
      have H1 : (fringelaw17_CrossSpectra.j0 k l0 l1 l2 true) = some r := by rw [if_pos rfl] at H; exact H
      clear H
      have H := H1
      clear H1
      have H' := Aside0.mk H
      clear H
      go_wp2_with (first | ((with_reducible refine gate_callee (f := 9) rfl ?_); refine goesL_ (some 26) rfl rfl Try.func9 (by kernel_rfl) rfl #[.slice A0 l0.length c0] rfl (by (try simp only [List.map_toArray, List.map_cons, List.map_nil]); first | done | rfl | (simp only [List.length_drop, List.length_take]; rfl)) ?_; (with_reducible refine (fringeref13_Long.calls _ _ l0 true _ ?side1 ?side2 A5.out).mono ?_); (case side1 => repeat (first | exact (Kd.C_below HR0.out HB.out) | (with_reducible refine Kd.C_alloc ?_ _) | (with_reducible refine Kd.C_drewN ?_ _) | (with_reducible refine Kd.C_drew ?_))); (case side2 => exact HC0.out); rintro e w' ⟨rfl, ⟨nd, rfl⟩⟩; refine ⟨_, rfl, ?_⟩))
      go_meet
      case rel => exact ⟨_, (true), (by first | rfl | (simp; done) | (simp [*]; done) | (simp [i64_w]; done)), H', ⟨by first | omega | exact Nat.le_refl _⟩, ⟨by repeat (first | (with_reducible first | exact HB.out | apply below_alloc | apply pw_below_drewN | apply below_drew1) | exact HB.out)⟩⟩
    replace c6 := Bool.eq_false_iff.mpr c6
    subst c6
    have H1 : (if (l1.length : Int) > 300 then (fringelaw17_CrossSpectra.j0 k l0 l1 l2 true) else (fringelaw17_CrossSpectra.j0 k l0 l1 l2 (decide ((l2.length : Int) > 300)))) = some r := by rw [if_neg (show ¬ (false = true) by decide)] at H; exact H
    clear H
    have H := H1
    clear H1
    by_cases c7 : (l1.length : Int) > 300
    · rw [if_pos c7] at H
      have c7b0 : decide (300 < (l1.length : Int)) = true := decide_eq_true c7
      have c7b1 : decide (300 < l1.length) = true := decide_eq_true (by omega)
      clear c7
      (first | rw [c7b0] | (simp only [i64_w, i32_w]; rw [c7b0]) | skip)
      have H' := Aside0.mk H
      clear H
      go_wp2_with (first | ((with_reducible refine gate_callee (f := 9) rfl ?_); refine goesL_ (some 26) rfl rfl Try.func9 (by kernel_rfl) rfl #[.slice A0 l0.length c0] rfl (by (try simp only [List.map_toArray, List.map_cons, List.map_nil]); first | done | rfl | (simp only [List.length_drop, List.length_take]; rfl)) ?_; (with_reducible refine (fringeref13_Long.calls _ _ l0 false _ ?side1 ?side2 A5.out).mono ?_); (case side1 => repeat (first | exact (Kd.C_below HR0.out HB.out) | (with_reducible refine Kd.C_alloc ?_ _) | (with_reducible refine Kd.C_drewN ?_ _) | (with_reducible refine Kd.C_drew ?_))); (case side2 => exact HC0.out); rintro e w' ⟨rfl, ⟨nd, rfl⟩⟩; refine ⟨_, rfl, ?_⟩))
      go_meet
      case rel => exact ⟨_, (true), (by first | rfl | (simp; done) | (simp [*]; done) | (simp [i64_w]; done)), H', ⟨by first | omega | exact Nat.le_refl _⟩, ⟨by repeat (first | (with_reducible first | exact HB.out | apply below_alloc | apply pw_below_drewN | apply below_drew1) | exact HB.out)⟩⟩
    rw [if_neg c7] at H
    have c7b0 : decide (300 < (l1.length : Int)) = false := decide_eq_false c7
    have c7b1 : decide (300 < l1.length) = false := decide_eq_false (by omega)
    clear c7
    (first | rw [c7b0] | (simp only [i64_w, i32_w]; rw [c7b0]) | skip)
    have H' := Aside0.mk H
    clear H
    go_wp2_with (first | ((with_reducible refine gate_callee (f := 9) rfl ?_); refine goesL_ (some 26) rfl rfl Try.func9 (by kernel_rfl) rfl #[.slice A0 l0.length c0] rfl (by (try simp only [List.map_toArray, List.map_cons, List.map_nil]); first | done | rfl | (simp only [List.length_drop, List.length_take]; rfl)) ?_; (with_reducible refine (fringeref13_Long.calls _ _ l0 false _ ?side1 ?side2 A5.out).mono ?_); (case side1 => repeat (first | exact (Kd.C_below HR0.out HB.out) | (with_reducible refine Kd.C_alloc ?_ _) | (with_reducible refine Kd.C_drewN ?_ _) | (with_reducible refine Kd.C_drew ?_))); (case side2 => exact HC0.out); rintro e w' ⟨rfl, ⟨nd, rfl⟩⟩; refine ⟨_, rfl, ?_⟩))
    go_meet
    case rel => exact ⟨_, (decide ((l2.length : Int) > 300)), (by first | rfl | (simp; done) | (simp [*]; done) | (simp [i64_w]; done)), H', ⟨by first | omega | exact Nat.le_refl _⟩, ⟨by repeat (first | (with_reducible first | exact HB.out | apply below_alloc | apply pw_below_drewN | apply below_drew1) | exact HB.out)⟩⟩
  case rest =>
    clear HC4
    try clear c1
    try clear c2
    try clear p2
    try clear c3
    try clear c6
    try clear c7
    try clear c7b0
    try clear c7b1
    obtain ⟨kq, x36_3, rfl, HA, HJ3, HB⟩ := hcut
    cases kq with
    | zero => exact absurd HA.out (by simp [fringelaw17_CrossSpectra.j0])
    | succ kj3 =>
      have H := HA.out
      clear HA
      simp only [fringelaw17_CrossSpectra.j0] at H
      by_cases c8 : x36_3 = true
      · subst c8
        have H1 : (some true) = some r := by rw [if_pos rfl] at H; exact H
        clear H
        have H := H1
        clear H1
        obtain rfl := Option.some.inj H
        go_wp2
        go_ret
        exact ⟨by first | rfl | (simp [errW_none, errW_some] <;> rfl) | (simp [*, errW_none, errW_some] <;> rfl), by repeat (first | (with_reducible first | exact HB.out | apply below_alloc | apply pw_below_drewN | apply below_drew1) | exact HB.out)⟩
      replace c8 := Bool.eq_false_iff.mpr c8
      subst c8
      have H1 : ((some (([] : List Int) : List Int)).bind fun y330 => (if y330.length + l0.length < 17592186044416 then ((some (y330 ++ l0 : List Int)).bind fun y333 => ((some (([] : List Int) : List Int)).bind fun y336 => (if y336.length + l1.length < 17592186044416 then ((some (y336 ++ l1 : List Int)).bind fun y339 => ((cross_Spectrum.f kj3 y333).bind fun bt342 => ((fringeref17_Spectrum.f kj3 l0).bind fun bt346 => ((cross_Product.f kj3 y339 l2).bind fun bt350 => ((fringeref17_Product.f kj3 l1 l2).bind fun bt354 => ((cross_Values.f kj3 y339).bind fun bt358 => ((fringeref17_Values.f kj3 l1).bind fun bt362 => ((cross_Pieces.f y333).bind fun bt366 => ((fringeref17_Pieces.f kj3 l0).bind fun bt370 => ((fringeref17_Same.f kj3 bt342.1 bt346.1).bind fun t374 => (if t374 = true then (if bt342.2 = bt346.2 then ((fringeref17_Same.f kj3 bt350.1 bt354.1).bind fun t375 => (if t375 = true then (if bt350.2 = bt354.2 then ((fringeref17_Same.f kj3 bt358.1 bt362.1).bind fun t376 => (if t376 = true then (if bt358.2 = bt362.2 then ((fringeref17_SameLists.f kj3 bt366.1 bt370.1).bind fun t377 => (if t377 = true then (if bt366.2 = bt370.2 then ((fringeref13_Same.f kj3 y333 l0).bind fun t378 => (if t378 = true then ((fringeref17_Same.f kj3 y339 l1).bind fun t379 => (some t379)) else (some false))) else (some false)) else (some false))) else (some false)) else (some false))) else (some false)) else (some false))) else (some false)) else (some false)))))))))))) else (none)))) else (none))) = some r := by rw [if_neg (show ¬ (false = true) by decide)] at H; exact H
      clear H
      have H := H1
      clear H1
      obtain ⟨y330, hy330⟩ : ∃ y_ : List Int, y_ = (([] : List Int)) := ⟨_, rfl⟩
      replace H : (if y330.length + l0.length < 17592186044416 then ((some (y330 ++ l0 : List Int)).bind fun y333 => ((some (([] : List Int) : List Int)).bind fun y336 => (if y336.length + l1.length < 17592186044416 then ((some (y336 ++ l1 : List Int)).bind fun y339 => ((cross_Spectrum.f kj3 y333).bind fun bt342 => ((fringeref17_Spectrum.f kj3 l0).bind fun bt346 => ((cross_Product.f kj3 y339 l2).bind fun bt350 => ((fringeref17_Product.f kj3 l1 l2).bind fun bt354 => ((cross_Values.f kj3 y339).bind fun bt358 => ((fringeref17_Values.f kj3 l1).bind fun bt362 => ((cross_Pieces.f y333).bind fun bt366 => ((fringeref17_Pieces.f kj3 l0).bind fun bt370 => ((fringeref17_Same.f kj3 bt342.1 bt346.1).bind fun t374 => (if t374 = true then (if bt342.2 = bt346.2 then ((fringeref17_Same.f kj3 bt350.1 bt354.1).bind fun t375 => (if t375 = true then (if bt350.2 = bt354.2 then ((fringeref17_Same.f kj3 bt358.1 bt362.1).bind fun t376 => (if t376 = true then (if bt358.2 = bt362.2 then ((fringeref17_SameLists.f kj3 bt366.1 bt370.1).bind fun t377 => (if t377 = true then (if bt366.2 = bt370.2 then ((fringeref13_Same.f kj3 y333 l0).bind fun t378 => (if t378 = true then ((fringeref17_Same.f kj3 y339 l1).bind fun t379 => (some t379)) else (some false))) else (some false)) else (some false))) else (some false)) else (some false))) else (some false)) else (some false))) else (some false)) else (some false)))))))))))) else (none)))) else (none)) = some r := by first | (rw [hy330]; with_reducible exact H) | (have H2_ := (Option.bind_some _ _).symm.trans H; rw [hy330]; with_reducible exact H2_) | (have H2_ := (Option.bind_some _ _).symm.trans H; with_reducible exact H2_) | with_reducible exact H | (rw [hy330]; exact H) | exact H
      have Ny330 := Aside0.mk hy330
      clear hy330
      by_cases c9 : y330.length + l0.length < 17592186044416
      rotate_left
      · rw [if_neg c9] at H
        exact absurd H (by simp)

      rw [if_pos c9] at H
      have LMc9 := Aside0.mk c9
      clear c9
      obtain ⟨y333, hy333⟩ : ∃ y_ : List Int, y_ = (y330 ++ l0) := ⟨_, rfl⟩
      replace H : ((some (([] : List Int) : List Int)).bind fun y336 => (if y336.length + l1.length < 17592186044416 then ((some (y336 ++ l1 : List Int)).bind fun y339 => ((cross_Spectrum.f kj3 y333).bind fun bt342 => ((fringeref17_Spectrum.f kj3 l0).bind fun bt346 => ((cross_Product.f kj3 y339 l2).bind fun bt350 => ((fringeref17_Product.f kj3 l1 l2).bind fun bt354 => ((cross_Values.f kj3 y339).bind fun bt358 => ((fringeref17_Values.f kj3 l1).bind fun bt362 => ((cross_Pieces.f y333).bind fun bt366 => ((fringeref17_Pieces.f kj3 l0).bind fun bt370 => ((fringeref17_Same.f kj3 bt342.1 bt346.1).bind fun t374 => (if t374 = true then (if bt342.2 = bt346.2 then ((fringeref17_Same.f kj3 bt350.1 bt354.1).bind fun t375 => (if t375 = true then (if bt350.2 = bt354.2 then ((fringeref17_Same.f kj3 bt358.1 bt362.1).bind fun t376 => (if t376 = true then (if bt358.2 = bt362.2 then ((fringeref17_SameLists.f kj3 bt366.1 bt370.1).bind fun t377 => (if t377 = true then (if bt366.2 = bt370.2 then ((fringeref13_Same.f kj3 y333 l0).bind fun t378 => (if t378 = true then ((fringeref17_Same.f kj3 y339 l1).bind fun t379 => (some t379)) else (some false))) else (some false)) else (some false))) else (some false)) else (some false))) else (some false)) else (some false))) else (some false)) else (some false)))))))))))) else (none))) = some r := by first | (rw [hy333]; with_reducible exact H) | (have H2_ := (Option.bind_some _ _).symm.trans H; rw [hy333]; with_reducible exact H2_) | (have H2_ := (Option.bind_some _ _).symm.trans H; with_reducible exact H2_) | with_reducible exact H | (rw [hy333]; exact H) | exact H
      have Ny333 := Aside0.mk hy333
      clear hy333
      obtain ⟨y336, hy336⟩ : ∃ y_ : List Int, y_ = (([] : List Int)) := ⟨_, rfl⟩
      replace H : (if y336.length + l1.length < 17592186044416 then ((some (y336 ++ l1 : List Int)).bind fun y339 => ((cross_Spectrum.f kj3 y333).bind fun bt342 => ((fringeref17_Spectrum.f kj3 l0).bind fun bt346 => ((cross_Product.f kj3 y339 l2).bind fun bt350 => ((fringeref17_Product.f kj3 l1 l2).bind fun bt354 => ((cross_Values.f kj3 y339).bind fun bt358 => ((fringeref17_Values.f kj3 l1).bind fun bt362 => ((cross_Pieces.f y333).bind fun bt366 => ((fringeref17_Pieces.f kj3 l0).bind fun bt370 => ((fringeref17_Same.f kj3 bt342.1 bt346.1).bind fun t374 => (if t374 = true then (if bt342.2 = bt346.2 then ((fringeref17_Same.f kj3 bt350.1 bt354.1).bind fun t375 => (if t375 = true then (if bt350.2 = bt354.2 then ((fringeref17_Same.f kj3 bt358.1 bt362.1).bind fun t376 => (if t376 = true then (if bt358.2 = bt362.2 then ((fringeref17_SameLists.f kj3 bt366.1 bt370.1).bind fun t377 => (if t377 = true then (if bt366.2 = bt370.2 then ((fringeref13_Same.f kj3 y333 l0).bind fun t378 => (if t378 = true then ((fringeref17_Same.f kj3 y339 l1).bind fun t379 => (some t379)) else (some false))) else (some false)) else (some false))) else (some false)) else (some false))) else (some false)) else (some false))) else (some false)) else (some false)))))))))))) else (none)) = some r := by first | (rw [hy336]; with_reducible exact H) | (have H2_ := (Option.bind_some _ _).symm.trans H; rw [hy336]; with_reducible exact H2_) | (have H2_ := (Option.bind_some _ _).symm.trans H; with_reducible exact H2_) | with_reducible exact H | (rw [hy336]; exact H) | exact H
      have Ny336 := Aside0.mk hy336
      clear hy336
      by_cases c10 : y336.length + l1.length < 17592186044416
      rotate_left
      · rw [if_neg c10] at H
        exact absurd H (by simp)
      rw [if_pos c10] at H
      have LMc10 := Aside0.mk c10
      clear c10
      obtain ⟨y339, hy339⟩ : ∃ y_ : List Int, y_ = (y336 ++ l1) := ⟨_, rfl⟩
      replace H : ((cross_Spectrum.f kj3 y333).bind fun bt342 => ((fringeref17_Spectrum.f kj3 l0).bind fun bt346 => ((cross_Product.f kj3 y339 l2).bind fun bt350 => ((fringeref17_Product.f kj3 l1 l2).bind fun bt354 => ((cross_Values.f kj3 y339).bind fun bt358 => ((fringeref17_Values.f kj3 l1).bind fun bt362 => ((cross_Pieces.f y333).bind fun bt366 => ((fringeref17_Pieces.f kj3 l0).bind fun bt370 => ((fringeref17_Same.f kj3 bt342.1 bt346.1).bind fun t374 => (if t374 = true then (if bt342.2 = bt346.2 then ((fringeref17_Same.f kj3 bt350.1 bt354.1).bind fun t375 => (if t375 = true then (if bt350.2 = bt354.2 then ((fringeref17_Same.f kj3 bt358.1 bt362.1).bind fun t376 => (if t376 = true then (if bt358.2 = bt362.2 then ((fringeref17_SameLists.f kj3 bt366.1 bt370.1).bind fun t377 => (if t377 = true then (if bt366.2 = bt370.2 then ((fringeref13_Same.f kj3 y333 l0).bind fun t378 => (if t378 = true then ((fringeref17_Same.f kj3 y339 l1).bind fun t379 => (some t379)) else (some false))) else (some false)) else (some false))) else (some false)) else (some false))) else (some false)) else (some false))) else (some false)) else (some false))))))))))) = some r := by first | (rw [hy339]; with_reducible exact H) | (have H2_ := (Option.bind_some _ _).symm.trans H; rw [hy339]; with_reducible exact H2_) | (have H2_ := (Option.bind_some _ _).symm.trans H; with_reducible exact H2_) | with_reducible exact H | (rw [hy339]; exact H) | exact H
      have Ny339 := Aside0.mk hy339
      clear hy339
      replace H := Option.bind_eq_some_iff.mp H
      obtain ⟨⟨t342, t343⟩, A110, H⟩ := H
      replace H : ((fringeref17_Spectrum.f kj3 l0).bind fun bt346 => ((cross_Product.f kj3 y339 l2).bind fun bt350 => ((fringeref17_Product.f kj3 l1 l2).bind fun bt354 => ((cross_Values.f kj3 y339).bind fun bt358 => ((fringeref17_Values.f kj3 l1).bind fun bt362 => ((cross_Pieces.f y333).bind fun bt366 => ((fringeref17_Pieces.f kj3 l0).bind fun bt370 => ((fringeref17_Same.f kj3 t342 bt346.1).bind fun t374 => (if t374 = true then (if t343 = bt346.2 then ((fringeref17_Same.f kj3 bt350.1 bt354.1).bind fun t375 => (if t375 = true then (if bt350.2 = bt354.2 then ((fringeref17_Same.f kj3 bt358.1 bt362.1).bind fun t376 => (if t376 = true then (if bt358.2 = bt362.2 then ((fringeref17_SameLists.f kj3 bt366.1 bt370.1).bind fun t377 => (if t377 = true then (if bt366.2 = bt370.2 then ((fringeref13_Same.f kj3 y333 l0).bind fun t378 => (if t378 = true then ((fringeref17_Same.f kj3 y339 l1).bind fun t379 => (some t379)) else (some false))) else (some false)) else (some false))) else (some false)) else (some false))) else (some false)) else (some false))) else (some false)) else (some false)))))))))) = some r := H
      have A11 := Aside0.mk A110
      clear A110
      replace H := Option.bind_eq_some_iff.mp H
      obtain ⟨⟨t346, t347⟩, A120, H⟩ := H
      replace H : ((cross_Product.f kj3 y339 l2).bind fun bt350 => ((fringeref17_Product.f kj3 l1 l2).bind fun bt354 => ((cross_Values.f kj3 y339).bind fun bt358 => ((fringeref17_Values.f kj3 l1).bind fun bt362 => ((cross_Pieces.f y333).bind fun bt366 => ((fringeref17_Pieces.f kj3 l0).bind fun bt370 => ((fringeref17_Same.f kj3 t342 t346).bind fun t374 => (if t374 = true then (if t343 = t347 then ((fringeref17_Same.f kj3 bt350.1 bt354.1).bind fun t375 => (if t375 = true then (if bt350.2 = bt354.2 then ((fringeref17_Same.f kj3 bt358.1 bt362.1).bind fun t376 => (if t376 = true then (if bt358.2 = bt362.2 then ((fringeref17_SameLists.f kj3 bt366.1 bt370.1).bind fun t377 => (if t377 = true then (if bt366.2 = bt370.2 then ((fringeref13_Same.f kj3 y333 l0).bind fun t378 => (if t378 = true then ((fringeref17_Same.f kj3 y339 l1).bind fun t379 => (some t379)) else (some false))) else (some false)) else (some false))) else (some false)) else (some false))) else (some false)) else (some false))) else (some false)) else (some false))))))))) = some r := H
      have A12 := Aside0.mk A120
      clear A120
      replace H := Option.bind_eq_some_iff.mp H
      obtain ⟨⟨t350, t351⟩, A130, H⟩ := H
      replace H : ((fringeref17_Product.f kj3 l1 l2).bind fun bt354 => ((cross_Values.f kj3 y339).bind fun bt358 => ((fringeref17_Values.f kj3 l1).bind fun bt362 => ((cross_Pieces.f y333).bind fun bt366 => ((fringeref17_Pieces.f kj3 l0).bind fun bt370 => ((fringeref17_Same.f kj3 t342 t346).bind fun t374 => (if t374 = true then (if t343 = t347 then ((fringeref17_Same.f kj3 t350 bt354.1).bind fun t375 => (if t375 = true then (if t351 = bt354.2 then ((fringeref17_Same.f kj3 bt358.1 bt362.1).bind fun t376 => (if t376 = true then (if bt358.2 = bt362.2 then ((fringeref17_SameLists.f kj3 bt366.1 bt370.1).bind fun t377 => (if t377 = true then (if bt366.2 = bt370.2 then ((fringeref13_Same.f kj3 y333 l0).bind fun t378 => (if t378 = true then ((fringeref17_Same.f kj3 y339 l1).bind fun t379 => (some t379)) else (some false))) else (some false)) else (some false))) else (some false)) else (some false))) else (some false)) else (some false))) else (some false)) else (some false)))))))) = some r := H
      have A13 := Aside0.mk A130
      clear A130
      replace H := Option.bind_eq_some_iff.mp H
      obtain ⟨⟨t354, t355⟩, A140, H⟩ := H
      replace H : ((cross_Values.f kj3 y339).bind fun bt358 => ((fringeref17_Values.f kj3 l1).bind fun bt362 => ((cross_Pieces.f y333).bind fun bt366 => ((fringeref17_Pieces.f kj3 l0).bind fun bt370 => ((fringeref17_Same.f kj3 t342 t346).bind fun t374 => (if t374 = true then (if t343 = t347 then ((fringeref17_Same.f kj3 t350 t354).bind fun t375 => (if t375 = true then (if t351 = t355 then ((fringeref17_Same.f kj3 bt358.1 bt362.1).bind fun t376 => (if t376 = true then (if bt358.2 = bt362.2 then ((fringeref17_SameLists.f kj3 bt366.1 bt370.1).bind fun t377 => (if t377 = true then (if bt366.2 = bt370.2 then ((fringeref13_Same.f kj3 y333 l0).bind fun t378 => (if t378 = true then ((fringeref17_Same.f kj3 y339 l1).bind fun t379 => (some t379)) else (some false))) else (some false)) else (some false))) else (some false)) else (some false))) else (some false)) else (some false))) else (some false)) else (some false))))))) = some r := H
      have A14 := Aside0.mk A140
      clear A140
      replace H := Option.bind_eq_some_iff.mp H
      obtain ⟨⟨t358, t359⟩, A150, H⟩ := H
      replace H : ((fringeref17_Values.f kj3 l1).bind fun bt362 => ((cross_Pieces.f y333).bind fun bt366 => ((fringeref17_Pieces.f kj3 l0).bind fun bt370 => ((fringeref17_Same.f kj3 t342 t346).bind fun t374 => (if t374 = true then (if t343 = t347 then ((fringeref17_Same.f kj3 t350 t354).bind fun t375 => (if t375 = true then (if t351 = t355 then ((fringeref17_Same.f kj3 t358 bt362.1).bind fun t376 => (if t376 = true then (if t359 = bt362.2 then ((fringeref17_SameLists.f kj3 bt366.1 bt370.1).bind fun t377 => (if t377 = true then (if bt366.2 = bt370.2 then ((fringeref13_Same.f kj3 y333 l0).bind fun t378 => (if t378 = true then ((fringeref17_Same.f kj3 y339 l1).bind fun t379 => (some t379)) else (some false))) else (some false)) else (some false))) else (some false)) else (some false))) else (some false)) else (some false))) else (some false)) else (some false)))))) = some r := H
      have A15 := Aside0.mk A150
      clear A150
      replace H := Option.bind_eq_some_iff.mp H
      obtain ⟨⟨t362, t363⟩, A160, H⟩ := H
      replace H : ((cross_Pieces.f y333).bind fun bt366 => ((fringeref17_Pieces.f kj3 l0).bind fun bt370 => ((fringeref17_Same.f kj3 t342 t346).bind fun t374 => (if t374 = true then (if t343 = t347 then ((fringeref17_Same.f kj3 t350 t354).bind fun t375 => (if t375 = true then (if t351 = t355 then ((fringeref17_Same.f kj3 t358 t362).bind fun t376 => (if t376 = true then (if t359 = t363 then ((fringeref17_SameLists.f kj3 bt366.1 bt370.1).bind fun t377 => (if t377 = true then (if bt366.2 = bt370.2 then ((fringeref13_Same.f kj3 y333 l0).bind fun t378 => (if t378 = true then ((fringeref17_Same.f kj3 y339 l1).bind fun t379 => (some t379)) else (some false))) else (some false)) else (some false))) else (some false)) else (some false))) else (some false)) else (some false))) else (some false)) else (some false))))) = some r := H
      have A16 := Aside0.mk A160
      clear A160
      replace H := Option.bind_eq_some_iff.mp H
      obtain ⟨⟨t366, t367⟩, A170, H⟩ := H
      replace H : ((fringeref17_Pieces.f kj3 l0).bind fun bt370 => ((fringeref17_Same.f kj3 t342 t346).bind fun t374 => (if t374 = true then (if t343 = t347 then ((fringeref17_Same.f kj3 t350 t354).bind fun t375 => (if t375 = true then (if t351 = t355 then ((fringeref17_Same.f kj3 t358 t362).bind fun t376 => (if t376 = true then (if t359 = t363 then ((fringeref17_SameLists.f kj3 t366 bt370.1).bind fun t377 => (if t377 = true then (if t367 = bt370.2 then ((fringeref13_Same.f kj3 y333 l0).bind fun t378 => (if t378 = true then ((fringeref17_Same.f kj3 y339 l1).bind fun t379 => (some t379)) else (some false))) else (some false)) else (some false))) else (some false)) else (some false))) else (some false)) else (some false))) else (some false)) else (some false)))) = some r := H
      have A17 := Aside0.mk A170
      clear A170
      replace H := Option.bind_eq_some_iff.mp H
      obtain ⟨⟨t370, t371⟩, A180, H⟩ := H
      replace H : ((fringeref17_Same.f kj3 t342 t346).bind fun t374 => (if t374 = true then (if t343 = t347 then ((fringeref17_Same.f kj3 t350 t354).bind fun t375 => (if t375 = true then (if t351 = t355 then ((fringeref17_Same.f kj3 t358 t362).bind fun t376 => (if t376 = true then (if t359 = t363 then ((fringeref17_SameLists.f kj3 t366 t370).bind fun t377 => (if t377 = true then (if t367 = t371 then ((fringeref13_Same.f kj3 y333 l0).bind fun t378 => (if t378 = true then ((fringeref17_Same.f kj3 y339 l1).bind fun t379 => (some t379)) else (some false))) else (some false)) else (some false))) else (some false)) else (some false))) else (some false)) else (some false))) else (some false)) else (some false))) = some r := H
      have A18 := Aside0.mk A180
      clear A180
      replace H := Option.bind_eq_some_iff.mp H
      obtain ⟨t374, A190, H⟩ := H
      replace H : (if t374 = true then (if t343 = t347 then ((fringeref17_Same.f kj3 t350 t354).bind fun t375 => (if t375 = true then (if t351 = t355 then ((fringeref17_Same.f kj3 t358 t362).bind fun t376 => (if t376 = true then (if t359 = t363 then ((fringeref17_SameLists.f kj3 t366 t370).bind fun t377 => (if t377 = true then (if t367 = t371 then ((fringeref13_Same.f kj3 y333 l0).bind fun t378 => (if t378 = true then ((fringeref17_Same.f kj3 y339 l1).bind fun t379 => (some t379)) else (some false))) else (some false)) else (some false))) else (some false)) else (some false))) else (some false)) else (some false))) else (some false)) else (some false)) = some r := H
      have A19 := Aside0.mk A190
      clear A190
      by_cases c20 : t374 = true
      rotate_left
      · replace c20 := Bool.eq_false_iff.mpr c20
        subst c20
        have H1 : (some false) = some r := by rw [if_neg (show ¬ (false = true) by decide)] at H; exact H
        clear H
        have H := H1
        clear H1
        exact absurd ((Option.some.inj H).trans HRT.out) (by decide)
      subst c20
      have H1 : (if t343 = t347 then ((fringeref17_Same.f kj3 t350 t354).bind fun t375 => (if t375 = true then (if t351 = t355 then ((fringeref17_Same.f kj3 t358 t362).bind fun t376 => (if t376 = true then (if t359 = t363 then ((fringeref17_SameLists.f kj3 t366 t370).bind fun t377 => (if t377 = true then (if t367 = t371 then ((fringeref13_Same.f kj3 y333 l0).bind fun t378 => (if t378 = true then ((fringeref17_Same.f kj3 y339 l1).bind fun t379 => (some t379)) else (some false))) else (some false)) else (some false))) else (some false)) else (some false))) else (some false)) else (some false))) else (some false)) = some r := by rw [if_pos rfl] at H; exact H
      clear H
      have H := H1
      clear H1
      by_cases c21 : t343 = t347
      rotate_left
      · rw [if_neg c21] at H
        have c21b0 : (t343 == t347) = false := beq_eq_false_iff_ne.mpr c21
        have c21b1 : (t343 != t347) = true := bne_iff_ne.mpr c21
        exact absurd ((Option.some.inj H).trans HRT.out) (by decide)
      rw [if_pos c21] at H
      have c21b0 : (t343 == t347) = true := beq_iff_eq.mpr c21
      have c21b1 : (t343 != t347) = false := bne_eq_false_iff_eq.mpr c21
      clear c21
      replace H := Option.bind_eq_some_iff.mp H
      obtain ⟨t375, A220, H⟩ := H
      replace H : (if t375 = true then (if t351 = t355 then ((fringeref17_Same.f kj3 t358 t362).bind fun t376 => (if t376 = true then (if t359 = t363 then ((fringeref17_SameLists.f kj3 t366 t370).bind fun t377 => (if t377 = true then (if t367 = t371 then ((fringeref13_Same.f kj3 y333 l0).bind fun t378 => (if t378 = true then ((fringeref17_Same.f kj3 y339 l1).bind fun t379 => (some t379)) else (some false))) else (some false)) else (some false))) else (some false)) else (some false))) else (some false)) else (some false)) = some r := H
      have A22 := Aside0.mk A220
      clear A220
      by_cases c23 : t375 = true
      rotate_left
      · replace c23 := Bool.eq_false_iff.mpr c23
        subst c23
        have H1 : (some false) = some r := by rw [if_neg (show ¬ (false = true) by decide)] at H; exact H
        clear H
        have H := H1
        clear H1
        exact absurd ((Option.some.inj H).trans HRT.out) (by decide)
      subst c23
      have H1 : (if t351 = t355 then ((fringeref17_Same.f kj3 t358 t362).bind fun t376 => (if t376 = true then (if t359 = t363 then ((fringeref17_SameLists.f kj3 t366 t370).bind fun t377 => (if t377 = true then (if t367 = t371 then ((fringeref13_Same.f kj3 y333 l0).bind fun t378 => (if t378 = true then ((fringeref17_Same.f kj3 y339 l1).bind fun t379 => (some t379)) else (some false))) else (some false)) else (some false))) else (some false)) else (some false))) else (some false)) = some r := by rw [if_pos rfl] at H; exact H
      clear H
      have H := H1
      clear H1
      by_cases c24 : t351 = t355
      rotate_left
      · rw [if_neg c24] at H
        have c24b0 : (t351 == t355) = false := beq_eq_false_iff_ne.mpr c24
        have c24b1 : (t351 != t355) = true := bne_iff_ne.mpr c24
        exact absurd ((Option.some.inj H).trans HRT.out) (by decide)
      rw [if_pos c24] at H
      have c24b0 : (t351 == t355) = true := beq_iff_eq.mpr c24
      have c24b1 : (t351 != t355) = false := bne_eq_false_iff_eq.mpr c24
      clear c24
      replace H := Option.bind_eq_some_iff.mp H
      obtain ⟨t376, A250, H⟩ := H
      replace H : (if t376 = true then (if t359 = t363 then ((fringeref17_SameLists.f kj3 t366 t370).bind fun t377 => (if t377 = true then (if t367 = t371 then ((fringeref13_Same.f kj3 y333 l0).bind fun t378 => (if t378 = true then ((fringeref17_Same.f kj3 y339 l1).bind fun t379 => (some t379)) else (some false))) else (some false)) else (some false))) else (some false)) else (some false)) = some r := H
      have A25 := Aside0.mk A250
      clear A250
      by_cases c26 : t376 = true
      rotate_left
      · replace c26 := Bool.eq_false_iff.mpr c26
        subst c26
        have H1 : (some false) = some r := by rw [if_neg (show ¬ (false = true) by decide)] at H; exact H
        clear H
        have H := H1
        clear H1
        exact absurd ((Option.some.inj H).trans HRT.out) (by decide)
      subst c26
      have H1 : (if t359 = t363 then ((fringeref17_SameLists.f kj3 t366 t370).bind fun t377 => (if t377 = true then (if t367 = t371 then ((fringeref13_Same.f kj3 y333 l0).bind fun t378 => (if t378 = true then ((fringeref17_Same.f kj3 y339 l1).bind fun t379 => (some t379)) else (some false))) else (some false)) else (some false))) else (some false)) = some r := by rw [if_pos rfl] at H; exact H
      clear H
      have H := H1
      clear H1
      by_cases c27 : t359 = t363
      rotate_left
      · rw [if_neg c27] at H
        have c27b0 : (t359 == t363) = false := beq_eq_false_iff_ne.mpr c27
        have c27b1 : (t359 != t363) = true := bne_iff_ne.mpr c27
        exact absurd ((Option.some.inj H).trans HRT.out) (by decide)
      rw [if_pos c27] at H
      have c27b0 : (t359 == t363) = true := beq_iff_eq.mpr c27
      have c27b1 : (t359 != t363) = false := bne_eq_false_iff_eq.mpr c27
      clear c27
      replace H := Option.bind_eq_some_iff.mp H
      obtain ⟨t377, A280, H⟩ := H
      replace H : (if t377 = true then (if t367 = t371 then ((fringeref13_Same.f kj3 y333 l0).bind fun t378 => (if t378 = true then ((fringeref17_Same.f kj3 y339 l1).bind fun t379 => (some t379)) else (some false))) else (some false)) else (some false)) = some r := H
      have A28 := Aside0.mk A280
      clear A280
      by_cases c29 : t377 = true
      rotate_left
      · replace c29 := Bool.eq_false_iff.mpr c29
        subst c29
        have H1 : (some false) = some r := by rw [if_neg (show ¬ (false = true) by decide)] at H; exact H
        clear H
        have H := H1
        clear H1
        exact absurd ((Option.some.inj H).trans HRT.out) (by decide)
      subst c29
      have H1 : (if t367 = t371 then ((fringeref13_Same.f kj3 y333 l0).bind fun t378 => (if t378 = true then ((fringeref17_Same.f kj3 y339 l1).bind fun t379 => (some t379)) else (some false))) else (some false)) = some r := by rw [if_pos rfl] at H; exact H
      clear H
      have H := H1
      clear H1
      by_cases c30 : t367 = t371
      rotate_left
      · rw [if_neg c30] at H
        have c30b0 : (t367 == t371) = false := beq_eq_false_iff_ne.mpr c30
        have c30b1 : (t367 != t371) = true := bne_iff_ne.mpr c30
        exact absurd ((Option.some.inj H).trans HRT.out) (by decide)
      rw [if_pos c30] at H
      have c30b0 : (t367 == t371) = true := beq_iff_eq.mpr c30
      have c30b1 : (t367 != t371) = false := bne_eq_false_iff_eq.mpr c30
      clear c30
      replace H := Option.bind_eq_some_iff.mp H
      obtain ⟨t378, A310, H⟩ := H
      replace H : (if t378 = true then ((fringeref17_Same.f kj3 y339 l1).bind fun t379 => (some t379)) else (some false)) = some r := H
      have A31 := Aside0.mk A310
      clear A310
      by_cases c32 : t378 = true
      rotate_left
      · replace c32 := Bool.eq_false_iff.mpr c32
        subst c32
        have H1 : (some false) = some r := by rw [if_neg (show ¬ (false = true) by decide)] at H; exact H
        clear H
        have H := H1
        clear H1
        exact absurd ((Option.some.inj H).trans HRT.out) (by decide)
      subst c32
      have H1 : ((fringeref17_Same.f kj3 y339 l1).bind fun t379 => (some t379)) = some r := by rw [if_pos rfl] at H; exact H
      clear H
      have H := H1
      clear H1
      replace H := Option.bind_eq_some_iff.mp H
      obtain ⟨t379, A330, H⟩ := H
      replace H : (some t379) = some r := H
      have A33 := Aside0.mk A330
      clear A330
      obtain rfl := Option.some.inj H
      go_wp2_with (first | ((with_reducible refine gate_dst (N := 37) rfl ?_); (try (refine gate_guard (by rfl) ?_; dsimp only)); refine Kd.R_lit (Kd.int .i64) _ 3 ?hg (N := 37) ?hd (xs := ([] : List Int)) (inner := []) (ok := fun _ => True) (okp := fun _ => True) ?hr ?hp (fun _ hk => hk) trivial (Below.refl _ _) (Nat.le_refl _) (by simp) ?_; (case hd => rfl); (case hg => rfl); (case hr => first | (go_simp; done) | (go_simp; rfl)); (case hp => exact (Reps.none _ _)); intro v331 w34 ho35 hb hg_ hnew_; clear hg_ hnew_; (first | rw [← Ny330.out] at ho35 | (simp only [Int.reduceToNat] at ho35; rw [← Ny330.out] at ho35)); have n0_ := Aside0.mk (Kd.R_lower ho35 (below_size (by repeat (first | (with_reducible first | exact HB.out | apply below_alloc | apply pw_below_drewN | apply below_drew1) | exact HB.out)))); have n1_ := Aside0.mk (below_step (by repeat (first | (with_reducible first | exact HB.out | apply below_alloc | apply pw_below_drewN | apply below_drew1) | exact HB.out)) hb); clear HB; have HO332 := n0_; have HB := n1_; clear n0_ n1_; clear hb ho35) | ((with_reducible refine gate_builtin (b := .append) (xs := #[.tmp 37, .tmp 38]) rfl ?_); (try (refine gate_guard (by rfl) ?_; dsimp only)); at_builtin; refine Kd.R_append_rows (Kd.int .i64) (w0 := w) w.heap.size rfl (.tmp 37) (.tmp 38) 22 3 (.int .i64 0) 8 rfl Try.underlying22 info3 rfl (by decide) (by omega) v331 y330 l0 _ _ _ (fun _ => True) (fun _ => False) rfl rfl ?aO ?aR (fun _ _ h => h) (fun _ h => h.elim) ?aF ?aB ?aS ?aL ?_; (case aR => repeat (first | exact (Kd.C_below HR0.out HB.out) | (with_reducible refine Kd.C_alloc ?_ _) | (with_reducible refine Kd.C_drewN ?_ _) | (with_reducible refine Kd.C_drew ?_))); (case aB => exact (by repeat (first | (with_reducible first | exact HB.out | apply below_alloc | apply pw_below_drewN | apply below_drew1) | exact HB.out))); (case aF => exact (fun _ _ => trivial)); (case aO => exact (by (with_reducible repeat (first | apply Kd.R_alloc | apply Kd.R_drewN | apply Kd.R_drew)); exact HO332.out)); (case aS => exact (below_size (by repeat (first | (with_reducible first | exact HB.out | apply below_alloc | apply pw_below_drewN | apply below_drew1) | exact HB.out)))); (case aL => have := LMc9.out; omega); intro v334 w36 ho hb hg hat; rw [← Ny333.out] at ho; have n0_ := Aside0.mk (hb); have n1_ := Aside0.mk (ho); clear HB; clear HO332; have HB := n0_; have HO335 := n1_; clear n0_ n1_; clear ho hb hg hat) | ((with_reducible refine gate_dst (N := 40) rfl ?_); (try (refine gate_guard (by rfl) ?_; dsimp only)); refine Kd.R_lit (Kd.int .i64) _ 2 ?hg (N := 40) ?hd (xs := ([] : List Int)) (inner := []) (ok := fun _ => True) (okp := fun _ => True) ?hr ?hp (fun _ hk => hk) trivial (Below.refl _ _) (Nat.le_refl _) (by simp) ?_; (case hd => rfl); (case hg => rfl); (case hr => first | (go_simp; done) | (go_simp; rfl)); (case hp => exact (Reps.none _ _)); intro v337 w37 ho38 hb hg_ hnew_; clear hg_ hnew_; (first | rw [← Ny336.out] at ho38 | (simp only [Int.reduceToNat] at ho38; rw [← Ny336.out] at ho38)); have n0_ := Aside0.mk (Kd.R_below (by (with_reducible repeat (first | apply Kd.R_alloc | apply Kd.R_drewN | apply Kd.R_drew)); exact HO335.out) hb); have n1_ := Aside0.mk (Kd.R_lower ho38 (below_size (by repeat (first | (with_reducible first | exact HB.out | apply below_alloc | apply pw_below_drewN | apply below_drew1) | exact HB.out)))); have n2_ := Aside0.mk (below_step (by repeat (first | (with_reducible first | exact HB.out | apply below_alloc | apply pw_below_drewN | apply below_drew1) | exact HB.out)) hb); clear HO335; clear HB; have HO335 := n0_; have HO338 := n1_; have HB := n2_; clear n0_ n1_ n2_; clear hb ho38) | ((with_reducible refine gate_builtin (b := .append) (xs := #[.tmp 40, .tmp 41]) rfl ?_); (try (refine gate_guard (by rfl) ?_; dsimp only)); at_builtin; refine Kd.R_append_rows (Kd.int .i64) (w0 := w) w.heap.size rfl (.tmp 40) (.tmp 41) 23 2 (.int .i64 0) 8 rfl Try.underlying23 info2 rfl (by decide) (by omega) v337 y336 l1 _ _ _ (fun _ => True) (fun _ => False) rfl rfl ?aO ?aR (fun _ _ h => h) (fun _ h => h.elim) ?aF ?aB ?aS ?aL ?_; (case aR => repeat (first | exact (Kd.C_below HR1.out HB.out) | (with_reducible refine Kd.C_alloc ?_ _) | (with_reducible refine Kd.C_drewN ?_ _) | (with_reducible refine Kd.C_drew ?_))); (case aB => exact (by repeat (first | (with_reducible first | exact HB.out | apply below_alloc | apply pw_below_drewN | apply below_drew1) | exact HB.out))); (case aF => exact (fun _ _ => trivial)); (case aO => exact (by (with_reducible repeat (first | apply Kd.R_alloc | apply Kd.R_drewN | apply Kd.R_drew)); exact HO338.out)); (case aS => exact (below_size (by repeat (first | (with_reducible first | exact HB.out | apply below_alloc | apply pw_below_drewN | apply below_drew1) | exact HB.out)))); (case aL => have := LMc10.out; omega); intro v340 w39 ho hb hg hat; rw [← Ny339.out] at ho; have n0_ := Aside0.mk (Kd.R_over' (by (with_reducible repeat (first | apply Kd.R_alloc | apply Kd.R_drewN | apply Kd.R_drew)); exact HO335.out) (Kd.R_typed (by (with_reducible repeat (first | apply Kd.R_alloc | apply Kd.R_drewN | apply Kd.R_drew)); exact HO338.out)) (by decide) hg); have n1_ := Aside0.mk (hb); have n2_ := Aside0.mk (ho); clear HO335; clear HB; clear HO338; have HO335 := n0_; have HB := n1_; have HO341 := n2_; clear n0_ n1_ n2_; clear ho hb hg hat; obtain ⟨Ao40, co40, eo40⟩ := Kd.R_slice HO335.out; subst eo40) | ((with_reducible refine gate_callee (f := 10) rfl ?_); refine goesL_ (some 45) rfl rfl Try.func10 (by kernel_rfl) rfl #[.slice Ao40 y333.length co40] rfl (by (try simp only [List.map_toArray, List.map_cons, List.map_nil]); first | done | rfl | (simp only [List.length_drop, List.length_take]; rfl)) ?_; (with_reducible refine (cross_Spectrum.calls kj3 _ _ y333 t342 t343 _ ?side1 ?side2 A11.out).mono ?_); (case side1 => repeat (first | exact (Kd.R_reads' HO335.out).2.2 | (with_reducible refine Kd.C_alloc ?_ _) | (with_reducible refine Kd.C_drewN ?_ _) | (with_reducible refine Kd.C_drew ?_))); (case side2 => exact (Kd.R_reads' HO335.out).2.1); rintro e w41 ⟨v344, rfl, ho0, hb⟩; refine ⟨_, rfl, ?_⟩; have n0_ := Aside0.mk (Kd.R_below (by (with_reducible repeat (first | apply Kd.R_alloc | apply Kd.R_drewN | apply Kd.R_drew)); exact HO335.out) hb); have n1_ := Aside0.mk (Kd.R_elder' (by (with_reducible repeat (first | apply Kd.R_alloc | apply Kd.R_drewN | apply Kd.R_drew)); exact HO341.out) (Kd.R_base ho0) hb); have n2_ := Aside0.mk (Kd.R_lower (Kd.R_new' ho0 (Kd.R_lt (by (with_reducible repeat (first | apply Kd.R_alloc | apply Kd.R_drewN | apply Kd.R_drew)); exact HO341.out))) (below_size (by repeat (first | (with_reducible first | exact HB.out | apply below_alloc | apply pw_below_drewN | apply below_drew1) | exact HB.out)))); have n3_ := Aside0.mk (below_step (by repeat (first | (with_reducible first | exact HB.out | apply below_alloc | apply pw_below_drewN | apply below_drew1) | exact HB.out)) hb); clear HO335; clear HO341; clear HB; have HO335 := n0_; have HO341 := n1_; have HO345 := n2_; have HB := n3_; clear n0_ n1_ n2_ n3_; (try clear hb); (try clear hb2); (try clear hk); (try clear hi); (try clear ho0)) | ((with_reducible refine gate_callee (f := 11) rfl ?_); refine goesL_ (some 50) rfl rfl Try.func11 (by kernel_rfl) rfl #[.slice A0 l0.length c0] rfl (by (try simp only [List.map_toArray, List.map_cons, List.map_nil]); first | done | rfl | (simp only [List.length_drop, List.length_take]; rfl)) ?_; (with_reducible refine (fringeref17_Spectrum.calls kj3 _ _ l0 t346 t347 _ ?side1 ?side2 A12.out).mono ?_); (case side1 => repeat (first | exact (Kd.C_below HR0.out HB.out) | (with_reducible refine Kd.C_alloc ?_ _) | (with_reducible refine Kd.C_drewN ?_ _) | (with_reducible refine Kd.C_drew ?_))); (case side2 => exact HC0.out); rintro e w42 ⟨v348, rfl, ho0, hb⟩; refine ⟨_, rfl, ?_⟩; have n0_ := Aside0.mk (Kd.R_below (by (with_reducible repeat (first | apply Kd.R_alloc | apply Kd.R_drewN | apply Kd.R_drew)); exact HO335.out) hb); have n1_ := Aside0.mk (Kd.R_elder' (by (with_reducible repeat (first | apply Kd.R_alloc | apply Kd.R_drewN | apply Kd.R_drew)); exact HO341.out) (Kd.R_base ho0) hb); have n2_ := Aside0.mk (Kd.R_elder' (by (with_reducible repeat (first | apply Kd.R_alloc | apply Kd.R_drewN | apply Kd.R_drew)); exact HO345.out) (Kd.R_base ho0) hb); have n3_ := Aside0.mk (Kd.R_lower (Kd.R_new' (Kd.R_new' ho0 (Kd.R_lt (by (with_reducible repeat (first | apply Kd.R_alloc | apply Kd.R_drewN | apply Kd.R_drew)); exact HO341.out))) (Kd.R_lt (by (with_reducible repeat (first | apply Kd.R_alloc | apply Kd.R_drewN | apply Kd.R_drew)); exact HO345.out))) (below_size (by repeat (first | (with_reducible first | exact HB.out | apply below_alloc | apply pw_below_drewN | apply below_drew1) | exact HB.out)))); have n4_ := Aside0.mk (below_step (by repeat (first | (with_reducible first | exact HB.out | apply below_alloc | apply pw_below_drewN | apply below_drew1) | exact HB.out)) hb); clear HO335; clear HO341; clear HO345; clear HB; have HO335 := n0_; have HO341 := n1_; have HO345 := n2_; have HO349 := n3_; have HB := n4_; clear n0_ n1_ n2_ n3_ n4_; (try clear hb); (try clear hb2); (try clear hk); (try clear hi); (try clear ho0); obtain ⟨Ao43, co43, eo43⟩ := Kd.R_slice HO341.out; subst eo43) | ((with_reducible refine gate_callee (f := 12) rfl ?_); refine goesL_ (some 56) rfl rfl Try.func12 (by kernel_rfl) rfl #[.slice Ao43 y339.length co43, .slice A2 l2.length c2] rfl (by (try simp only [List.map_toArray, List.map_cons, List.map_nil]); first | done | rfl | (simp only [List.length_drop, List.length_take]; rfl)) ?_; (with_reducible refine (cross_Product.calls kj3 _ _ y339 _ _ l2 t350 t351 _ ?side1 ?side2 ?side3 ?side4 A13.out).mono ?_); (case side1 => repeat (first | exact (Kd.R_reads' HO341.out).2.2 | (with_reducible refine Kd.C_alloc ?_ _) | (with_reducible refine Kd.C_drewN ?_ _) | (with_reducible refine Kd.C_drew ?_))); (case side2 => exact (Kd.R_reads' HO341.out).2.1); (case side3 => repeat (first | exact (Kd.C_below HR2.out HB.out) | (with_reducible refine Kd.C_alloc ?_ _) | (with_reducible refine Kd.C_drewN ?_ _) | (with_reducible refine Kd.C_drew ?_))); (case side4 => exact HC2.out); rintro e w44 ⟨v352, rfl, ho0, hb⟩; refine ⟨_, rfl, ?_⟩; have n0_ := Aside0.mk (Kd.R_below (by (with_reducible repeat (first | apply Kd.R_alloc | apply Kd.R_drewN | apply Kd.R_drew)); exact HO335.out) hb); have n1_ := Aside0.mk (Kd.R_elder' (by (with_reducible repeat (first | apply Kd.R_alloc | apply Kd.R_drewN | apply Kd.R_drew)); exact HO341.out) (Kd.R_base ho0) hb); have n2_ := Aside0.mk (Kd.R_elder' (by (with_reducible repeat (first | apply Kd.R_alloc | apply Kd.R_drewN | apply Kd.R_drew)); exact HO345.out) (Kd.R_base ho0) hb); have n3_ := Aside0.mk (Kd.R_elder' (by (with_reducible repeat (first | apply Kd.R_alloc | apply Kd.R_drewN | apply Kd.R_drew)); exact HO349.out) (Kd.R_base ho0) hb); have n4_ := Aside0.mk (Kd.R_lower (Kd.R_new' (Kd.R_new' (Kd.R_new' ho0 (Kd.R_lt (by (with_reducible repeat (first | apply Kd.R_alloc | apply Kd.R_drewN | apply Kd.R_drew)); exact HO341.out))) (Kd.R_lt (by (with_reducible repeat (first | apply Kd.R_alloc | apply Kd.R_drewN | apply Kd.R_drew)); exact HO345.out))) (Kd.R_lt (by (with_reducible repeat (first | apply Kd.R_alloc | apply Kd.R_drewN | apply Kd.R_drew)); exact HO349.out))) (below_size (by repeat (first | (with_reducible first | exact HB.out | apply below_alloc | apply pw_below_drewN | apply below_drew1) | exact HB.out)))); have n5_ := Aside0.mk (below_step (by repeat (first | (with_reducible first | exact HB.out | apply below_alloc | apply pw_below_drewN | apply below_drew1) | exact HB.out)) hb); clear HO335; clear HO341; clear HO345; clear HO349; clear HB; have HO335 := n0_; have HO341 := n1_; have HO345 := n2_; have HO349 := n3_; have HO353 := n4_; have HB := n5_; clear n0_ n1_ n2_ n3_ n4_ n5_; (try clear hb); (try clear hb2); (try clear hk); (try clear hi); (try clear ho0)) | ((with_reducible refine gate_callee (f := 13) rfl ?_); refine goesL_ (some 62) rfl rfl Try.func13 (by kernel_rfl) rfl #[.slice A1 l1.length c1, .slice A2 l2.length c2] rfl (by (try simp only [List.map_toArray, List.map_cons, List.map_nil]); first | done | rfl | (simp only [List.length_drop, List.length_take]; rfl)) ?_; (with_reducible refine (fringeref17_Product.calls kj3 _ _ l1 _ _ l2 t354 t355 _ ?side1 ?side2 ?side3 ?side4 A14.out).mono ?_); (case side1 => repeat (first | exact (Kd.C_below HR1.out HB.out) | (with_reducible refine Kd.C_alloc ?_ _) | (with_reducible refine Kd.C_drewN ?_ _) | (with_reducible refine Kd.C_drew ?_))); (case side2 => exact HC1.out); (case side3 => repeat (first | exact (Kd.C_below HR2.out HB.out) | (with_reducible refine Kd.C_alloc ?_ _) | (with_reducible refine Kd.C_drewN ?_ _) | (with_reducible refine Kd.C_drew ?_))); (case side4 => exact HC2.out); rintro e w45 ⟨v356, rfl, ho0, hb⟩; refine ⟨_, rfl, ?_⟩; have n0_ := Aside0.mk (Kd.R_below (by (with_reducible repeat (first | apply Kd.R_alloc | apply Kd.R_drewN | apply Kd.R_drew)); exact HO335.out) hb); have n1_ := Aside0.mk (Kd.R_elder' (by (with_reducible repeat (first | apply Kd.R_alloc | apply Kd.R_drewN | apply Kd.R_drew)); exact HO341.out) (Kd.R_base ho0) hb); have n2_ := Aside0.mk (Kd.R_elder' (by (with_reducible repeat (first | apply Kd.R_alloc | apply Kd.R_drewN | apply Kd.R_drew)); exact HO345.out) (Kd.R_base ho0) hb); have n3_ := Aside0.mk (Kd.R_elder' (by (with_reducible repeat (first | apply Kd.R_alloc | apply Kd.R_drewN | apply Kd.R_drew)); exact HO349.out) (Kd.R_base ho0) hb); have n4_ := Aside0.mk (Kd.R_elder' (by (with_reducible repeat (first | apply Kd.R_alloc | apply Kd.R_drewN | apply Kd.R_drew)); exact HO353.out) (Kd.R_base ho0) hb); have n5_ := Aside0.mk (Kd.R_lower (Kd.R_new' (Kd.R_new' (Kd.R_new' (Kd.R_new' ho0 (Kd.R_lt (by (with_reducible repeat (first | apply Kd.R_alloc | apply Kd.R_drewN | apply Kd.R_drew)); exact HO341.out))) (Kd.R_lt (by (with_reducible repeat (first | apply Kd.R_alloc | apply Kd.R_drewN | apply Kd.R_drew)); exact HO345.out))) (Kd.R_lt (by (with_reducible repeat (first | apply Kd.R_alloc | apply Kd.R_drewN | apply Kd.R_drew)); exact HO349.out))) (Kd.R_lt (by (with_reducible repeat (first | apply Kd.R_alloc | apply Kd.R_drewN | apply Kd.R_drew)); exact HO353.out))) (below_size (by repeat (first | (with_reducible first | exact HB.out | apply below_alloc | apply pw_below_drewN | apply below_drew1) | exact HB.out)))); have n6_ := Aside0.mk (below_step (by repeat (first | (with_reducible first | exact HB.out | apply below_alloc | apply pw_below_drewN | apply below_drew1) | exact HB.out)) hb); clear HO335; clear HO341; clear HO345; clear HO349; clear HO353; clear HB; have HO335 := n0_; have HO341 := n1_; have HO345 := n2_; have HO349 := n3_; have HO353 := n4_; have HO357 := n5_; have HB := n6_; clear n0_ n1_ n2_ n3_ n4_ n5_ n6_; (try clear hb); (try clear hb2); (try clear hk); (try clear hi); (try clear ho0)) | ((with_reducible refine gate_callee (f := 14) rfl ?_); refine goesL_ (some 67) rfl rfl Try.func14 (by kernel_rfl) rfl #[.slice Ao43 y339.length co43] rfl (by (try simp only [List.map_toArray, List.map_cons, List.map_nil]); first | done | rfl | (simp only [List.length_drop, List.length_take]; rfl)) ?_; (with_reducible refine (cross_Values.calls kj3 _ _ y339 t358 t359 _ ?side1 ?side2 A15.out).mono ?_); (case side1 => repeat (first | exact (Kd.R_reads' HO341.out).2.2 | (with_reducible refine Kd.C_alloc ?_ _) | (with_reducible refine Kd.C_drewN ?_ _) | (with_reducible refine Kd.C_drew ?_))); (case side2 => exact (Kd.R_reads' HO341.out).2.1); rintro e w46 ⟨v360, rfl, ho0, hb⟩; refine ⟨_, rfl, ?_⟩; have n0_ := Aside0.mk (Kd.R_below (by (with_reducible repeat (first | apply Kd.R_alloc | apply Kd.R_drewN | apply Kd.R_drew)); exact HO335.out) hb); have n1_ := Aside0.mk (Kd.R_elder' (by (with_reducible repeat (first | apply Kd.R_alloc | apply Kd.R_drewN | apply Kd.R_drew)); exact HO341.out) (Kd.R_base ho0) hb); have n2_ := Aside0.mk (Kd.R_elder' (by (with_reducible repeat (first | apply Kd.R_alloc | apply Kd.R_drewN | apply Kd.R_drew)); exact HO345.out) (Kd.R_base ho0) hb); have n3_ := Aside0.mk (Kd.R_elder' (by (with_reducible repeat (first | apply Kd.R_alloc | apply Kd.R_drewN | apply Kd.R_drew)); exact HO349.out) (Kd.R_base ho0) hb); have n4_ := Aside0.mk (Kd.R_elder' (by (with_reducible repeat (first | apply Kd.R_alloc | apply Kd.R_drewN | apply Kd.R_drew)); exact HO353.out) (Kd.R_base ho0) hb); have n5_ := Aside0.mk (Kd.R_elder' (by (with_reducible repeat (first | apply Kd.R_alloc | apply Kd.R_drewN | apply Kd.R_drew)); exact HO357.out) (Kd.R_base ho0) hb); have n6_ := Aside0.mk (Kd.R_lower (Kd.R_new' (Kd.R_new' (Kd.R_new' (Kd.R_new' (Kd.R_new' ho0 (Kd.R_lt (by (with_reducible repeat (first | apply Kd.R_alloc | apply Kd.R_drewN | apply Kd.R_drew)); exact HO341.out))) (Kd.R_lt (by (with_reducible repeat (first | apply Kd.R_alloc | apply Kd.R_drewN | apply Kd.R_drew)); exact HO345.out))) (Kd.R_lt (by (with_reducible repeat (first | apply Kd.R_alloc | apply Kd.R_drewN | apply Kd.R_drew)); exact HO349.out))) (Kd.R_lt (by (with_reducible repeat (first | apply Kd.R_alloc | apply Kd.R_drewN | apply Kd.R_drew)); exact HO353.out))) (Kd.R_lt (by (with_reducible repeat (first | apply Kd.R_alloc | apply Kd.R_drewN | apply Kd.R_drew)); exact HO357.out))) (below_size (by repeat (first | (with_reducible first | exact HB.out | apply below_alloc | apply pw_below_drewN | apply below_drew1) | exact HB.out)))); have n7_ := Aside0.mk (below_step (by repeat (first | (with_reducible first | exact HB.out | apply below_alloc | apply pw_below_drewN | apply below_drew1) | exact HB.out)) hb); clear HO335; clear HO341; clear HO345; clear HO349; clear HO353; clear HO357; clear HB; have HO335 := n0_; have HO341 := n1_; have HO345 := n2_; have HO349 := n3_; have HO353 := n4_; have HO357 := n5_; have HO361 := n6_; have HB := n7_; clear n0_ n1_ n2_ n3_ n4_ n5_ n6_ n7_; (try clear hb); (try clear hb2); (try clear hk); (try clear hi); (try clear ho0)) | ((with_reducible refine gate_callee (f := 15) rfl ?_); refine goesL_ (some 72) rfl rfl Try.func15 (by kernel_rfl) rfl #[.slice A1 l1.length c1] rfl (by (try simp only [List.map_toArray, List.map_cons, List.map_nil]); first | done | rfl | (simp only [List.length_drop, List.length_take]; rfl)) ?_; (with_reducible refine (fringeref17_Values.calls kj3 _ _ l1 t362 t363 _ ?side1 ?side2 A16.out).mono ?_); (case side1 => repeat (first | exact (Kd.C_below HR1.out HB.out) | (with_reducible refine Kd.C_alloc ?_ _) | (with_reducible refine Kd.C_drewN ?_ _) | (with_reducible refine Kd.C_drew ?_))); (case side2 => exact HC1.out); rintro e w47 ⟨v364, rfl, ho0, hb⟩; refine ⟨_, rfl, ?_⟩; have n0_ := Aside0.mk (Kd.R_below (by (with_reducible repeat (first | apply Kd.R_alloc | apply Kd.R_drewN | apply Kd.R_drew)); exact HO335.out) hb); have n1_ := Aside0.mk (Kd.R_elder' (by (with_reducible repeat (first | apply Kd.R_alloc | apply Kd.R_drewN | apply Kd.R_drew)); exact HO341.out) (Kd.R_base ho0) hb); have n2_ := Aside0.mk (Kd.R_elder' (by (with_reducible repeat (first | apply Kd.R_alloc | apply Kd.R_drewN | apply Kd.R_drew)); exact HO345.out) (Kd.R_base ho0) hb); have n3_ := Aside0.mk (Kd.R_elder' (by (with_reducible repeat (first | apply Kd.R_alloc | apply Kd.R_drewN | apply Kd.R_drew)); exact HO349.out) (Kd.R_base ho0) hb); have n4_ := Aside0.mk (Kd.R_elder' (by (with_reducible repeat (first | apply Kd.R_alloc | apply Kd.R_drewN | apply Kd.R_drew)); exact HO353.out) (Kd.R_base ho0) hb); have n5_ := Aside0.mk (Kd.R_elder' (by (with_reducible repeat (first | apply Kd.R_alloc | apply Kd.R_drewN | apply Kd.R_drew)); exact HO357.out) (Kd.R_base ho0) hb); have n6_ := Aside0.mk (Kd.R_elder' (by (with_reducible repeat (first | apply Kd.R_alloc | apply Kd.R_drewN | apply Kd.R_drew)); exact HO361.out) (Kd.R_base ho0) hb); have n7_ := Aside0.mk (Kd.R_lower (Kd.R_new' (Kd.R_new' (Kd.R_new' (Kd.R_new' (Kd.R_new' (Kd.R_new' ho0 (Kd.R_lt (by (with_reducible repeat (first | apply Kd.R_alloc | apply Kd.R_drewN | apply Kd.R_drew)); exact HO341.out))) (Kd.R_lt (by (with_reducible repeat (first | apply Kd.R_alloc | apply Kd.R_drewN | apply Kd.R_drew)); exact HO345.out))) (Kd.R_lt (by (with_reducible repeat (first | apply Kd.R_alloc | apply Kd.R_drewN | apply Kd.R_drew)); exact HO349.out))) (Kd.R_lt (by (with_reducible repeat (first | apply Kd.R_alloc | apply Kd.R_drewN | apply Kd.R_drew)); exact HO353.out))) (Kd.R_lt (by (with_reducible repeat (first | apply Kd.R_alloc | apply Kd.R_drewN | apply Kd.R_drew)); exact HO357.out))) (Kd.R_lt (by (with_reducible repeat (first | apply Kd.R_alloc | apply Kd.R_drewN | apply Kd.R_drew)); exact HO361.out))) (below_size (by repeat (first | (with_reducible first | exact HB.out | apply below_alloc | apply pw_below_drewN | apply below_drew1) | exact HB.out)))); have n8_ := Aside0.mk (below_step (by repeat (first | (with_reducible first | exact HB.out | apply below_alloc | apply pw_below_drewN | apply below_drew1) | exact HB.out)) hb); clear HO335; clear HO341; clear HO345; clear HO349; clear HO353; clear HO357; clear HO361; clear HB; have HO335 := n0_; have HO341 := n1_; have HO345 := n2_; have HO349 := n3_; have HO353 := n4_; have HO357 := n5_; have HO361 := n6_; have HO365 := n7_; have HB := n8_; clear n0_ n1_ n2_ n3_ n4_ n5_ n6_ n7_ n8_; (try clear hb); (try clear hb2); (try clear hk); (try clear hi); (try clear ho0)) | ((with_reducible refine gate_callee (f := 16) rfl ?_); refine goesL_ (some 77) rfl rfl Try.func16 (by kernel_rfl) rfl #[.slice Ao40 y333.length co40] rfl (by (try simp only [List.map_toArray, List.map_cons, List.map_nil]); first | done | rfl | (simp only [List.length_drop, List.length_take]; rfl)) ?_; (with_reducible refine (cross_Pieces.calls _ _ y333 t366 t367 _ ?side1 ?side2 A17.out).mono ?_); (case side1 => repeat (first | exact (Kd.R_reads' HO335.out).2.2 | (with_reducible refine Kd.C_alloc ?_ _) | (with_reducible refine Kd.C_drewN ?_ _) | (with_reducible refine Kd.C_drew ?_))); (case side2 => exact (Kd.R_reads' HO335.out).2.1); rintro e w48 ⟨v368, rfl, ho0, hb⟩; refine ⟨_, rfl, ?_⟩; have n0_ := Aside0.mk (Kd.R_below (by (with_reducible repeat (first | apply Kd.R_alloc | apply Kd.R_drewN | apply Kd.R_drew)); exact HO335.out) hb); have n1_ := Aside0.mk (Kd.R_below (by (with_reducible repeat (first | apply Kd.R_alloc | apply Kd.R_drewN | apply Kd.R_drew)); exact HO341.out) hb); have n2_ := Aside0.mk (Kd.R_below (by (with_reducible repeat (first | apply Kd.R_alloc | apply Kd.R_drewN | apply Kd.R_drew)); exact HO345.out) hb); have n3_ := Aside0.mk (Kd.R_below (by (with_reducible repeat (first | apply Kd.R_alloc | apply Kd.R_drewN | apply Kd.R_drew)); exact HO349.out) hb); have n4_ := Aside0.mk (Kd.R_below (by (with_reducible repeat (first | apply Kd.R_alloc | apply Kd.R_drewN | apply Kd.R_drew)); exact HO353.out) hb); have n5_ := Aside0.mk (Kd.R_below (by (with_reducible repeat (first | apply Kd.R_alloc | apply Kd.R_drewN | apply Kd.R_drew)); exact HO357.out) hb); have n6_ := Aside0.mk (Kd.R_below (by (with_reducible repeat (first | apply Kd.R_alloc | apply Kd.R_drewN | apply Kd.R_drew)); exact HO361.out) hb); have n7_ := Aside0.mk (Kd.R_below (by (with_reducible repeat (first | apply Kd.R_alloc | apply Kd.R_drewN | apply Kd.R_drew)); exact HO365.out) hb); have n8_ := Aside0.mk (Kd.S_lower (Kd.S_new' ho0 (Kd.R_lt (by (with_reducible repeat (first | apply Kd.R_alloc | apply Kd.R_drewN | apply Kd.R_drew)); exact HO335.out))) (below_size (by repeat (first | (with_reducible first | exact HB.out | apply below_alloc | apply pw_below_drewN | apply below_drew1) | exact HB.out)))); have n9_ := Aside0.mk (below_step (by repeat (first | (with_reducible first | exact HB.out | apply below_alloc | apply pw_below_drewN | apply below_drew1) | exact HB.out)) hb); clear HO335; clear HO341; clear HO345; clear HO349; clear HO353; clear HO357; clear HO361; clear HO365; clear HB; have HO335 := n0_; have HO341 := n1_; have HO345 := n2_; have HO349 := n3_; have HO353 := n4_; have HO357 := n5_; have HO361 := n6_; have HO365 := n7_; have HO369 := n8_; have HB := n9_; clear n0_ n1_ n2_ n3_ n4_ n5_ n6_ n7_ n8_ n9_; (try clear hb); (try clear hb2); (try clear hk); (try clear hi); (try clear ho0)) | ((with_reducible refine gate_callee (f := 17) rfl ?_); refine goesL_ (some 82) rfl rfl Try.func17 (by kernel_rfl) rfl #[.slice A0 l0.length c0] rfl (by (try simp only [List.map_toArray, List.map_cons, List.map_nil]); first | done | rfl | (simp only [List.length_drop, List.length_take]; rfl)) ?_; (with_reducible refine (fringeref17_Pieces.calls kj3 _ _ l0 t370 t371 _ ?side1 ?side2 A18.out).mono ?_); (case side1 => repeat (first | exact (Kd.C_below HR0.out HB.out) | (with_reducible refine Kd.C_alloc ?_ _) | (with_reducible refine Kd.C_drewN ?_ _) | (with_reducible refine Kd.C_drew ?_))); (case side2 => exact HC0.out); rintro e w49 ⟨v372, rfl, ho0, hb⟩; refine ⟨_, rfl, ?_⟩; have n0_ := Aside0.mk (Kd.R_below (by (with_reducible repeat (first | apply Kd.R_alloc | apply Kd.R_drewN | apply Kd.R_drew)); exact HO335.out) hb); have n1_ := Aside0.mk (Kd.R_below (by (with_reducible repeat (first | apply Kd.R_alloc | apply Kd.R_drewN | apply Kd.R_drew)); exact HO341.out) hb); have n2_ := Aside0.mk (Kd.R_below (by (with_reducible repeat (first | apply Kd.R_alloc | apply Kd.R_drewN | apply Kd.R_drew)); exact HO345.out) hb); have n3_ := Aside0.mk (Kd.R_below (by (with_reducible repeat (first | apply Kd.R_alloc | apply Kd.R_drewN | apply Kd.R_drew)); exact HO349.out) hb); have n4_ := Aside0.mk (Kd.R_below (by (with_reducible repeat (first | apply Kd.R_alloc | apply Kd.R_drewN | apply Kd.R_drew)); exact HO353.out) hb); have n5_ := Aside0.mk (Kd.R_below (by (with_reducible repeat (first | apply Kd.R_alloc | apply Kd.R_drewN | apply Kd.R_drew)); exact HO357.out) hb); have n6_ := Aside0.mk (Kd.R_below (by (with_reducible repeat (first | apply Kd.R_alloc | apply Kd.R_drewN | apply Kd.R_drew)); exact HO361.out) hb); have n7_ := Aside0.mk (Kd.R_below (by (with_reducible repeat (first | apply Kd.R_alloc | apply Kd.R_drewN | apply Kd.R_drew)); exact HO365.out) hb); have n8_ := Aside0.mk (Kd.S_elder' (by (with_reducible repeat (first | apply Kd.S_alloc | apply Kd.S_drewN | apply Kd.S_drew)); exact HO369.out) (Kd.S_base ho0) hb); have n9_ := Aside0.mk (Kd.S_lower (Kd.S_new' (Kd.S_new' ho0 (Kd.R_lt (by (with_reducible repeat (first | apply Kd.R_alloc | apply Kd.R_drewN | apply Kd.R_drew)); exact HO335.out))) (Kd.S_lt (by (with_reducible repeat (first | apply Kd.S_alloc | apply Kd.S_drewN | apply Kd.S_drew)); exact HO369.out))) (below_size (by repeat (first | (with_reducible first | exact HB.out | apply below_alloc | apply pw_below_drewN | apply below_drew1) | exact HB.out)))); have n10_ := Aside0.mk (below_step (by repeat (first | (with_reducible first | exact HB.out | apply below_alloc | apply pw_below_drewN | apply below_drew1) | exact HB.out)) hb); clear HO335; clear HO341; clear HO345; clear HO349; clear HO353; clear HO357; clear HO361; clear HO365; clear HO369; clear HB; have HO335 := n0_; have HO341 := n1_; have HO345 := n2_; have HO349 := n3_; have HO353 := n4_; have HO357 := n5_; have HO361 := n6_; have HO365 := n7_; have HO369 := n8_; have HO373 := n9_; have HB := n10_; clear n0_ n1_ n2_ n3_ n4_ n5_ n6_ n7_ n8_ n9_ n10_; (try clear hb); (try clear hb2); (try clear hk); (try clear hi); (try clear ho0); obtain ⟨Ao50, co50, eo50⟩ := Kd.R_slice HO345.out; subst eo50; obtain ⟨Ao51, co51, eo51⟩ := Kd.R_slice HO349.out; subst eo51) | ((with_reducible refine gate_callee (f := 18) rfl ?_); refine goesL_ (some 87) rfl rfl Try.func18 (by kernel_rfl) rfl #[.slice Ao50 t342.length co50, .slice Ao51 t346.length co51] rfl (by (try simp only [List.map_toArray, List.map_cons, List.map_nil]); first | done | rfl | (simp only [List.length_drop, List.length_take]; rfl)) ?_; (with_reducible refine (fringeref17_Same.calls kj3 _ _ t342 _ _ t346 true _ ?side1 ?side2 ?side3 ?side4 A19.out).mono ?_); (case side1 => repeat (first | exact (Kd.R_reads' HO345.out).2.2 | (with_reducible refine Kd.C_alloc ?_ _) | (with_reducible refine Kd.C_drewN ?_ _) | (with_reducible refine Kd.C_drew ?_))); (case side2 => exact (Kd.R_reads' HO345.out).2.1); (case side3 => repeat (first | exact (Kd.R_reads' HO349.out).2.2 | (with_reducible refine Kd.C_alloc ?_ _) | (with_reducible refine Kd.C_drewN ?_ _) | (with_reducible refine Kd.C_drew ?_))); (case side4 => exact (Kd.R_reads' HO349.out).2.1); rintro e w' ⟨rfl, ⟨nd, rfl⟩⟩; refine ⟨_, rfl, ?_⟩; obtain ⟨Ao52, co52, eo52⟩ := Kd.R_slice HO353.out; subst eo52; obtain ⟨Ao53, co53, eo53⟩ := Kd.R_slice HO357.out; subst eo53) | (go_at_call 18; (with_reducible refine (fringeref17_Same.calls kj3 _ _ t350 _ _ t354 true _ ?side1 ?side2 ?side3 ?side4 A22.out).mono ?_); (case side1 => repeat (first | exact (Kd.R_reads' HO353.out).2.2 | (with_reducible refine Kd.C_alloc ?_ _) | (with_reducible refine Kd.C_drewN ?_ _) | (with_reducible refine Kd.C_drew ?_))); (case side2 => exact (Kd.R_reads' HO353.out).2.1); (case side3 => repeat (first | exact (Kd.R_reads' HO357.out).2.2 | (with_reducible refine Kd.C_alloc ?_ _) | (with_reducible refine Kd.C_drewN ?_ _) | (with_reducible refine Kd.C_drew ?_))); (case side4 => exact (Kd.R_reads' HO357.out).2.1); rintro e w' ⟨rfl, ⟨nd, rfl⟩⟩; obtain ⟨Ao54, co54, eo54⟩ := Kd.R_slice HO361.out; subst eo54; obtain ⟨Ao55, co55, eo55⟩ := Kd.R_slice HO365.out; subst eo55) | (go_at_call 18; (with_reducible refine (fringeref17_Same.calls kj3 _ _ t358 _ _ t362 true _ ?side1 ?side2 ?side3 ?side4 A25.out).mono ?_); (case side1 => repeat (first | exact (Kd.R_reads' HO361.out).2.2 | (with_reducible refine Kd.C_alloc ?_ _) | (with_reducible refine Kd.C_drewN ?_ _) | (with_reducible refine Kd.C_drew ?_))); (case side2 => exact (Kd.R_reads' HO361.out).2.1); (case side3 => repeat (first | exact (Kd.R_reads' HO365.out).2.2 | (with_reducible refine Kd.C_alloc ?_ _) | (with_reducible refine Kd.C_drewN ?_ _) | (with_reducible refine Kd.C_drew ?_))); (case side4 => exact (Kd.R_reads' HO365.out).2.1); rintro e w' ⟨rfl, ⟨nd, rfl⟩⟩; obtain ⟨Ao56, co56, eo56⟩ := Kd.S_slice HO369.out; subst eo56; obtain ⟨Ao57, co57, eo57⟩ := Kd.S_slice HO373.out; subst eo57) | (go_at_call 19; (with_reducible refine (fringeref17_SameLists.calls kj3 _ _ t366 _ _ t370 true _ ?side1 ?side2 ?side3 ?side4 A28.out).mono ?_); (case side1 => repeat (first | exact (Kd.S_reads' HO369.out).2.2 | (with_reducible refine Kd.C_alloc ?_ _) | (with_reducible refine Kd.C_drewN ?_ _) | (with_reducible refine Kd.C_drew ?_))); (case side2 => exact (Kd.S_reads' HO369.out).2.1); (case side3 => repeat (first | exact (Kd.S_reads' HO373.out).2.2 | (with_reducible refine Kd.C_alloc ?_ _) | (with_reducible refine Kd.C_drewN ?_ _) | (with_reducible refine Kd.C_drew ?_))); (case side4 => exact (Kd.S_reads' HO373.out).2.1); rintro e w' ⟨rfl, ⟨nd, rfl⟩⟩) | (go_at_call 20; (with_reducible refine (fringeref13_Same.calls kj3 _ _ y333 _ _ l0 true _ ?side1 ?side2 ?side3 ?side4 A31.out).mono ?_); (case side1 => repeat (first | exact (Kd.R_reads' HO335.out).2.2 | (with_reducible refine Kd.C_alloc ?_ _) | (with_reducible refine Kd.C_drewN ?_ _) | (with_reducible refine Kd.C_drew ?_))); (case side2 => exact (Kd.R_reads' HO335.out).2.1); (case side3 => repeat (first | exact (Kd.C_below HR0.out (by repeat (first | (with_reducible first | exact HB.out | apply below_alloc | apply pw_below_drewN | apply below_drew1) | exact HB.out))) | (with_reducible refine Kd.C_alloc ?_ _) | (with_reducible refine Kd.C_drewN ?_ _) | (with_reducible refine Kd.C_drew ?_))); (case side4 => exact HC0.out); rintro e w' ⟨rfl, ⟨nd, rfl⟩⟩) | (go_at_call 18; (with_reducible refine (fringeref17_Same.calls kj3 _ _ y339 _ _ l1 t379 _ ?side1 ?side2 ?side3 ?side4 A33.out).mono ?_); (case side1 => repeat (first | exact (Kd.R_reads' HO341.out).2.2 | (with_reducible refine Kd.C_alloc ?_ _) | (with_reducible refine Kd.C_drewN ?_ _) | (with_reducible refine Kd.C_drew ?_))); (case side2 => exact (Kd.R_reads' HO341.out).2.1); (case side3 => repeat (first | exact (Kd.C_below HR1.out (by repeat (first | (with_reducible first | exact HB.out | apply below_alloc | apply pw_below_drewN | apply below_drew1) | exact HB.out))) | (with_reducible refine Kd.C_alloc ?_ _) | (with_reducible refine Kd.C_drewN ?_ _) | (with_reducible refine Kd.C_drew ?_))); (case side4 => exact HC1.out); rintro e w' ⟨rfl, ⟨nd, rfl⟩⟩))
      go_ret
      exact ⟨by first | rfl | (simp [errW_none, errW_some] <;> rfl) | (simp [*, errW_none, errW_some] <;> rfl), by repeat (first | (with_reducible first | exact HB.out | apply below_alloc | apply pw_below_drewN | apply below_drew1) | exact HB.out)⟩
/-- THE ONE PURE STATEMENT of fringelaw17_CrossSpectra: yours. -/
def fringelaw17_CrossSpectra.Pure : Prop := ∀ (l0 : List Int) (l1 : List Int) (l2 : List Int), l0.length ≤ maxLen → l0.length * 8 ≤ 140737488351232 → (∀ x ∈ l0, (Lit.int .i64 x).wf = true) → l1.length ≤ maxLen → l1.length * 8 ≤ 140737488351232 → (∀ x ∈ l1, (Lit.int .i64 x).wf = true) → l2.length ≤ maxLen → l2.length * 8 ≤ 140737488351232 → (∀ x ∈ l2, (Lit.int .i64 x).wf = true) → ∃ k, fringelaw17_CrossSpectra.f k l0 l1 l2 = some true
theorem fringelaw17_CrossSpectra.walk (P : fringelaw17_CrossSpectra.Pure) (a0 : Option Addr) (len0 cap0 : Nat) (z0 : List Int) (a1 : Option Addr) (len1 cap1 : Nat) (z1 : List Int) (a2 : Option Addr) (len2 cap2 : Nat) (z2 : List Int) (w : World) (w0 : (a0 = none ∧ len0 = 0 ∧ cap0 = 0 ∧ z0 = []) ∨ ∃ x, a0 = some x ∧ len0 ≤ cap0 ∧ cap0 ≤ maxLen ∧ z0.length = cap0 ∧ (∀ i, i < z0.length → w.cell? (x.add i) = some (.int .i64 (z0.getD i 0))) ∧ ∀ n ∈ z0, (Lit.int .i64 n).wf = true) (y0 : len0 * 8 ≤ 140737488351232) (w1 : (a1 = none ∧ len1 = 0 ∧ cap1 = 0 ∧ z1 = []) ∨ ∃ x, a1 = some x ∧ len1 ≤ cap1 ∧ cap1 ≤ maxLen ∧ z1.length = cap1 ∧ (∀ i, i < z1.length → w.cell? (x.add i) = some (.int .i64 (z1.getD i 0))) ∧ ∀ n ∈ z1, (Lit.int .i64 n).wf = true) (y1 : len1 * 8 ≤ 140737488351232) (w2 : (a2 = none ∧ len2 = 0 ∧ cap2 = 0 ∧ z2 = []) ∨ ∃ x, a2 = some x ∧ len2 ≤ cap2 ∧ cap2 ≤ maxLen ∧ z2.length = cap2 ∧ (∀ i, i < z2.length → w.cell? (x.add i) = some (.int .i64 (z2.getD i 0))) ∧ ∀ n ∈ z2, (Lit.int .i64 n).wf = true) (y2 : len2 * 8 ≤ 140737488351232) :
    Calls Try.prog 3 #[.slice a0 len0 cap0, .slice a1 len1 cap1, .slice a2 len2 cap2] w fun e w' => e = .returned (.bool true) ∧ Below w.heap.size w w' := by
  obtain ⟨l0, rfl, hr0, hm0, hw0, hc0⟩ := ReadsInt.ofRowC w0
  obtain ⟨l1, rfl, hr1, hm1, hw1, hc1⟩ := ReadsInt.ofRowC w1
  obtain ⟨l2, rfl, hr2, hm2, hw2, hc2⟩ := ReadsInt.ofRowC w2
  obtain ⟨k, h⟩ := P l0 l1 l2 hm0 y0 hw0 hm1 y1 hw1 hm2 y2 hw2
  refine (fringelaw17_CrossSpectra.calls k _ _ l0 _ _ l1 _ _ l2 true w (Kd.C_of_reads (d := (0 : Int)) (h1 := fun _ => rfl) hr0) hc0 (Kd.C_of_reads (d := (0 : Int)) (h1 := fun _ => rfl) hr1) hc1 (Kd.C_of_reads (d := (0 : Int)) (h1 := fun _ => rfl) hr2) hc2 rfl h).mono ?_
  rintro e w' ⟨rfl, hd⟩
  exact ⟨rfl, hd⟩

end Go.Proofs.Ytbopgopggnagpaa.PAll
