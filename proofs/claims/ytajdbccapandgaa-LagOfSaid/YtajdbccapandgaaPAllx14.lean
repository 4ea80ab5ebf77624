-- Written by a program of this session, after the kit's print
import Derived.Test.YtajdbccapandgaaPAllx0
import Derived.Test.YtajdbccapandgaaPAllx2
import Derived.Test.YtajdbccapandgaaPAllx6
import Derived.Test.YtajdbccapandgaaPAllx9
import Derived.Test.YtajdbccapandgaaPAllx10
import Derived.Test.YtajdbccapandgaaPAllx11
import Derived.Test.YtajdbccapandgaaPAllx12
import Derived.Test.YtajdbccapandgaaPAllx13
namespace Go.Proofs.Ytajdbccapandgaa.PAll
open Go.RowKit Go.Proofs.YtajdbccapandgaaW.PrintWords Go.Proofs.YtajdbccapandgaaW.PrintLast Go.Proofs.YtajdbccapandgaaW.PrintMore
attribute [local go_sem] max2_int min2_int max_two min_two max_three min_three max_four min_four   -- for this text's walks alone
set_option linter.unusedVariables false
set_option linter.unusedSimpArgs false

/-! ### fringelaw16_LagOf: function 3 -/
def fringelaw16_LagOf.j0 : Nat → List Int → List Int → Int → Int → Bool → Option (Bool)
  | 0, _, _, _, _, _ => none
  | k + 1, x0, x1, x2, x3, x26 => if x26 = true then (some true) else ((some (([] : List Int) : List Int)).bind fun y168 => (if y168.length + x0.length < 17592186044416 then ((some (y168 ++ x0 : List Int)).bind fun y171 => ((some (([] : List Int) : List Int)).bind fun y174 => (if y174.length + x1.length < 17592186044416 then ((some (y174 ++ x1 : List Int)).bind fun y177 => ((lag_Of.f k y171 y177 x2).bind fun bt180 => ((fringeref16_Of.f k x0 x1 x2).bind fun bt184 => ((lag_Cut.f y171 x3).bind fun bt188 => ((fringeref16_Cut.f k x0 x3).bind fun bt195 => ((fringeref16_Same.f k bt180.1 bt184.1).bind fun t202 => (if t202 = true then (if bt180.2 = bt184.2 then ((fringeref13_Same.f k bt188.1 bt195.1).bind fun t203 => (if t203 = true then ((fringeref13_Same.f k bt188.2.1 bt195.2.1).bind fun t204 => (if t204 = true then (if bt188.2.2 = bt195.2.2 then ((fringeref13_Same.f k y171 x0).bind fun t205 => (if t205 = true then ((fringeref13_Same.f k y177 x1).bind fun t206 => (some t206)) else (some false))) else (some false)) else (some false))) else (some false))) else (some false)) else (some false)))))))) else (none)))) else (none)))
def fringelaw16_LagOf.f (k : Nat) (l0 : List Int) (l1 : List Int) (a2 : Int) (a3 : Int) : Option (Bool) := (fringeref13_Long.f l0).bind fun t166 => (if t166 = true then (fringelaw16_LagOf.j0 k l0 l1 a2 a3 true) else ((fringeref13_Long.f l1).bind fun t167 => (fringelaw16_LagOf.j0 k l0 l1 a2 a3 t167)))
theorem fringelaw16_LagOf.mono_l : ∀ k, (∀ y0 y1 y2 y3 y4, LeO (fringelaw16_LagOf.j0 k y0 y1 y2 y3 y4) (fringelaw16_LagOf.j0 (k + 1) y0 y1 y2 y3 y4))
  | 0 => fun _ _ _ _ _ r h => by simp [fringelaw16_LagOf.j0] at h
  | k + 1 => by
    have ih0 := fringelaw16_LagOf.mono_l k
    · intro y0 y1 y2 y3 y4
      unfold fringelaw16_LagOf.j0
      repeat' first
      | (with_reducible exact ih0 _ _ _ _ _)
      | (with_reducible exact fringeref13_Same.mono _ _ _)
      | (with_reducible exact fringeref16_Cut.mono _ _ _)
      | (with_reducible exact fringeref16_Of.mono _ _ _ _)
      | (with_reducible exact fringeref16_Same.mono _ _ _)
      | (with_reducible exact lag_Of.mono _ _ _ _)
      | (with_reducible exact LeO.refl _)
      | (with_reducible exact LeO.none _)
      | (with_reducible refine LeO.ite ?_ ?_)
      | (with_reducible refine LeO.bind ?_ (fun _ => ?_))
      | exact ih0 _ _ _ _ _
      | exact fringeref13_Same.mono _ _ _
      | exact fringeref16_Cut.mono _ _ _
      | exact fringeref16_Of.mono _ _ _ _
      | exact fringeref16_Same.mono _ _ _
      | exact lag_Of.mono _ _ _ _
      | exact LeO.none _
      | refine LeO.ite ?_ ?_
      | refine LeO.bind ?_ (fun _ => ?_)
theorem fringelaw16_LagOf.mono : ∀ a0 a1 a2 a3 k, LeO (fringelaw16_LagOf.f k a0 a1 a2 a3) (fringelaw16_LagOf.f (k + 1) a0 a1 a2 a3) := by
  intro a0 a1 a2 a3 k
  have ih0 := fringelaw16_LagOf.mono_l k
  unfold fringelaw16_LagOf.f
  repeat' first
      | (with_reducible exact ih0 _ _ _ _ _)
      | (with_reducible exact fringeref13_Same.mono _ _ _)
      | (with_reducible exact fringeref16_Cut.mono _ _ _)
      | (with_reducible exact fringeref16_Of.mono _ _ _ _)
      | (with_reducible exact fringeref16_Same.mono _ _ _)
      | (with_reducible exact lag_Of.mono _ _ _ _)
      | (with_reducible exact LeO.refl _)
      | (with_reducible exact LeO.none _)
      | (with_reducible refine LeO.ite ?_ ?_)
      | (with_reducible refine LeO.bind ?_ (fun _ => ?_))
      | exact ih0 _ _ _ _ _
      | exact fringeref13_Same.mono _ _ _
      | exact fringeref16_Cut.mono _ _ _
      | exact fringeref16_Of.mono _ _ _ _
      | exact fringeref16_Same.mono _ _ _
      | exact lag_Of.mono _ _ _ _
      | exact LeO.none _
      | refine LeO.ite ?_ ?_
      | refine LeO.bind ?_ (fun _ => ?_)
set_option maxHeartbeats 8000000 in
set_option maxRecDepth 100000 in
theorem fringelaw16_LagOf.calls (k : Nat) (A0 : Option Addr) (c0 : Nat) (l0 : List Int) (A1 : Option Addr) (c1 : Nat) (l1 : List Int) (a2 : Int) (a3 : Int) (r : Bool) (w : World) (hr0 : Kd.C (Kd.int .i64) w A0 l0.length l0) (hc0 : l0.length ≤ c0) (hr1 : Kd.C (Kd.int .i64) w A1 l1.length l1) (hc1 : l1.length ≤ c1) (hrt : r = true) (h : fringelaw16_LagOf.f k l0 l1 a2 a3 = some r) :
    Calls Try.prog 3 #[.slice A0 l0.length c0, .slice A1 l1.length c1, .int .i64 a2, .int .i64 a3] w fun e w' => e = .returned (.bool r) ∧ Below w.heap.size w w' := by
  have HR0 := Aside0.mk hr0
  have HC0 := Aside0.mk hc0
  clear hr0 hc0
  have HR1 := Aside0.mk hr1
  have HC1 := Aside0.mk hc1
  clear hr1 hc1
  have HB := Aside0.mk (Below.refl w.heap.size w)
  have HRT := Aside0.mk hrt
  clear hrt
  have H : ((fringeref13_Long.f l0).bind fun t166 => (if t166 = true then (fringelaw16_LagOf.j0 k l0 l1 a2 a3 true) else ((fringeref13_Long.f l1).bind fun t167 => (fringelaw16_LagOf.j0 k l0 l1 a2 a3 t167)))) = some r := h
  clear h
  have HC5 := Aside0.mk H
  clear H
  go_enter Try.func3, Try.ntmps3
  go_upto_region 1 with (fail)
  go_cut [26] (fun v26 wc => ∃ (kq : Nat) (x26_4 : Bool), v26 = .bool x26_4 ∧ Aside0 (fringelaw16_LagOf.j0 kq l0 l1 a2 a3 x26_4 = some r) ∧ Aside0 (kq ≤ k) ∧ Aside0 (Below w.heap.size w wc))
  case first =>
    have H := HC5.out
    clear HC5
    replace H := Option.bind_eq_some_iff.mp H
    obtain ⟨t166, A60, H⟩ := H
    replace H : (if t166 = true then (fringelaw16_LagOf.j0 k l0 l1 a2 a3 true) else ((fringeref13_Long.f l1).bind fun t167 => (fringelaw16_LagOf.j0 k l0 l1 a2 a3 t167))) = some r := H
    have A6 := Aside0.mk A60
    clear A60
    by_cases c7 : t166 = true
    · subst c7
      have H1 : (fringelaw16_LagOf.j0 k l0 l1 a2 a3 true) = some r := by rw [if_pos rfl] at H; exact H
      clear H
      have H := H1
      clear H1
      have H' := Aside0.mk H
      clear H
      go_wp2_with (first | ((with_reducible refine gate_callee (f := 9) rfl ?_); refine goesL_ (some 22) rfl rfl Try.func9 (by kernel_rfl) rfl #[.slice A0 l0.length c0] rfl (by (try simp only [List.map_toArray, List.map_cons, List.map_nil]); first | done | rfl | (simp only [List.length_drop, List.length_take]; rfl)) ?_; (with_reducible refine (fringeref13_Long.calls _ _ l0 true _ ?side1 ?side2 A6.out).mono ?_); (case side1 => repeat (first | exact (Kd.C_below HR0.out HB.out) | (with_reducible refine Kd.C_alloc ?_ _) | (with_reducible refine Kd.C_drewN ?_ _) | (with_reducible refine Kd.C_drew ?_))); (case side2 => exact HC0.out); rintro e w' ⟨rfl, ⟨nd, rfl⟩⟩; refine ⟨_, rfl, ?_⟩))
      go_meet
      case rel => exact ⟨_, (true), (by first | rfl | (simp; done) | (simp [*]; done)), H', ⟨by first | omega | exact Nat.le_refl _⟩, ⟨by repeat (first | (with_reducible first | exact HB.out | apply below_alloc | apply pw_below_drewN | apply below_drew1) | exact HB.out)⟩⟩
    replace c7 := Bool.eq_false_iff.mpr c7
    subst c7
    have H1 : ((fringeref13_Long.f l1).bind fun t167 => (fringelaw16_LagOf.j0 k l0 l1 a2 a3 t167)) = some r := by rw [if_neg (show ¬ (false = true) by decide)] at H; exact H
    clear H
    have H := H1
    clear H1
    replace H := Option.bind_eq_some_iff.mp H
    obtain ⟨t167, A80, H⟩ := H
    replace H : (fringelaw16_LagOf.j0 k l0 l1 a2 a3 t167) = some r := H
    have A8 := Aside0.mk A80
    clear A80
    have H' := Aside0.mk H
    clear H
    go_wp2_with (first | ((with_reducible refine gate_callee (f := 9) rfl ?_); refine goesL_ (some 22) rfl rfl Try.func9 (by kernel_rfl) rfl #[.slice A0 l0.length c0] rfl (by (try simp only [List.map_toArray, List.map_cons, List.map_nil]); first | done | rfl | (simp only [List.length_drop, List.length_take]; rfl)) ?_; (with_reducible refine (fringeref13_Long.calls _ _ l0 false _ ?side1 ?side2 A6.out).mono ?_); (case side1 => repeat (first | exact (Kd.C_below HR0.out HB.out) | (with_reducible refine Kd.C_alloc ?_ _) | (with_reducible refine Kd.C_drewN ?_ _) | (with_reducible refine Kd.C_drew ?_))); (case side2 => exact HC0.out); rintro e w' ⟨rfl, ⟨nd, rfl⟩⟩; refine ⟨_, rfl, ?_⟩) | (go_at_call 9; (with_reducible refine (fringeref13_Long.calls _ _ l1 t167 _ ?side1 ?side2 A8.out).mono ?_); (case side1 => repeat (first | exact (Kd.C_below HR1.out (by repeat (first | (with_reducible first | exact HB.out | apply below_alloc | apply pw_below_drewN | apply below_drew1) | exact HB.out))) | (with_reducible refine Kd.C_alloc ?_ _) | (with_reducible refine Kd.C_drewN ?_ _) | (with_reducible refine Kd.C_drew ?_))); (case side2 => exact HC1.out); rintro e w' ⟨rfl, ⟨nd, rfl⟩⟩))
    go_meet
    case rel => exact ⟨_, (t167), (by first | rfl | (simp; done) | (simp [*]; done)), H', ⟨by first | omega | exact Nat.le_refl _⟩, ⟨by repeat (first | (with_reducible first | exact HB.out | apply below_alloc | apply pw_below_drewN | apply below_drew1) | exact HB.out)⟩⟩
  case rest =>
    clear HC5
    try clear c1
    try clear p2
    try clear c3
    try clear c7
    obtain ⟨kq, x26_4, rfl, HA, HJ4, HB⟩ := hcut
    cases kq with
    | zero => exact absurd HA.out (by simp [fringelaw16_LagOf.j0])
    | succ kj4 =>
      have H := HA.out
      clear HA
      simp only [fringelaw16_LagOf.j0] at H
      by_cases c9 : x26_4 = true
      · subst c9
        have H1 : (some true) = some r := by rw [if_pos rfl] at H; exact H
        clear H
        have H := H1
        clear H1
        obtain rfl := Option.some.inj H
        go_wp2
        go_ret
        exact ⟨by first | rfl | (simp [errW_none, errW_some] <;> rfl) | (simp [*, errW_none, errW_some] <;> rfl), by repeat (first | (with_reducible first | exact HB.out | apply below_alloc | apply pw_below_drewN | apply below_drew1) | exact HB.out)⟩
      replace c9 := Bool.eq_false_iff.mpr c9
      subst c9
      have H1 : ((some (([] : List Int) : List Int)).bind fun y168 => (if y168.length + l0.length < 17592186044416 then ((some (y168 ++ l0 : List Int)).bind fun y171 => ((some (([] : List Int) : List Int)).bind fun y174 => (if y174.length + l1.length < 17592186044416 then ((some (y174 ++ l1 : List Int)).bind fun y177 => ((lag_Of.f kj4 y171 y177 a2).bind fun bt180 => ((fringeref16_Of.f kj4 l0 l1 a2).bind fun bt184 => ((lag_Cut.f y171 a3).bind fun bt188 => ((fringeref16_Cut.f kj4 l0 a3).bind fun bt195 => ((fringeref16_Same.f kj4 bt180.1 bt184.1).bind fun t202 => (if t202 = true then (if bt180.2 = bt184.2 then ((fringeref13_Same.f kj4 bt188.1 bt195.1).bind fun t203 => (if t203 = true then ((fringeref13_Same.f kj4 bt188.2.1 bt195.2.1).bind fun t204 => (if t204 = true then (if bt188.2.2 = bt195.2.2 then ((fringeref13_Same.f kj4 y171 l0).bind fun t205 => (if t205 = true then ((fringeref13_Same.f kj4 y177 l1).bind fun t206 => (some t206)) else (some false))) else (some false)) else (some false))) else (some false))) else (some false)) else (some false)))))))) else (none)))) else (none))) = some r := by rw [if_neg (show ¬ (false = true) by decide)] at H; exact H
      clear H
      have H := H1
      clear H1
      obtain ⟨y168, hy168⟩ : ∃ y_ : List Int, y_ = (([] : List Int)) := ⟨_, rfl⟩
      replace H : (if y168.length + l0.length < 17592186044416 then ((some (y168 ++ l0 : List Int)).bind fun y171 => ((some (([] : List Int) : List Int)).bind fun y174 => (if y174.length + l1.length < 17592186044416 then ((some (y174 ++ l1 : List Int)).bind fun y177 => ((lag_Of.f kj4 y171 y177 a2).bind fun bt180 => ((fringeref16_Of.f kj4 l0 l1 a2).bind fun bt184 => ((lag_Cut.f y171 a3).bind fun bt188 => ((fringeref16_Cut.f kj4 l0 a3).bind fun bt195 => ((fringeref16_Same.f kj4 bt180.1 bt184.1).bind fun t202 => (if t202 = true then (if bt180.2 = bt184.2 then ((fringeref13_Same.f kj4 bt188.1 bt195.1).bind fun t203 => (if t203 = true then ((fringeref13_Same.f kj4 bt188.2.1 bt195.2.1).bind fun t204 => (if t204 = true then (if bt188.2.2 = bt195.2.2 then ((fringeref13_Same.f kj4 y171 l0).bind fun t205 => (if t205 = true then ((fringeref13_Same.f kj4 y177 l1).bind fun t206 => (some t206)) else (some false))) else (some false)) else (some false))) else (some false))) else (some false)) else (some false)))))))) else (none)))) else (none)) = some r := by first | (rw [hy168]; with_reducible exact H) | (have H2_ := (Option.bind_some _ _).symm.trans H; rw [hy168]; with_reducible exact H2_) | (have H2_ := (Option.bind_some _ _).symm.trans H; with_reducible exact H2_) | with_reducible exact H | (rw [hy168]; exact H) | exact H
      have Ny168 := Aside0.mk hy168
      clear hy168
      by_cases c10 : y168.length + l0.length < 17592186044416
      rotate_left
      · rw [if_neg c10] at H
        exact absurd H (by simp)

      rw [if_pos c10] at H
      have LMc10 := Aside0.mk c10
      clear c10
      obtain ⟨y171, hy171⟩ : ∃ y_ : List Int, y_ = (y168 ++ l0) := ⟨_, rfl⟩
      replace H : ((some (([] : List Int) : List Int)).bind fun y174 => (if y174.length + l1.length < 17592186044416 then ((some (y174 ++ l1 : List Int)).bind fun y177 => ((lag_Of.f kj4 y171 y177 a2).bind fun bt180 => ((fringeref16_Of.f kj4 l0 l1 a2).bind fun bt184 => ((lag_Cut.f y171 a3).bind fun bt188 => ((fringeref16_Cut.f kj4 l0 a3).bind fun bt195 => ((fringeref16_Same.f kj4 bt180.1 bt184.1).bind fun t202 => (if t202 = true then (if bt180.2 = bt184.2 then ((fringeref13_Same.f kj4 bt188.1 bt195.1).bind fun t203 => (if t203 = true then ((fringeref13_Same.f kj4 bt188.2.1 bt195.2.1).bind fun t204 => (if t204 = true then (if bt188.2.2 = bt195.2.2 then ((fringeref13_Same.f kj4 y171 l0).bind fun t205 => (if t205 = true then ((fringeref13_Same.f kj4 y177 l1).bind fun t206 => (some t206)) else (some false))) else (some false)) else (some false))) else (some false))) else (some false)) else (some false)))))))) else (none))) = some r := by first | (rw [hy171]; with_reducible exact H) | (have H2_ := (Option.bind_some _ _).symm.trans H; rw [hy171]; with_reducible exact H2_) | (have H2_ := (Option.bind_some _ _).symm.trans H; with_reducible exact H2_) | with_reducible exact H | (rw [hy171]; exact H) | exact H
      have Ny171 := Aside0.mk hy171
      clear hy171
      obtain ⟨y174, hy174⟩ : ∃ y_ : List Int, y_ = (([] : List Int)) := ⟨_, rfl⟩
      replace H : (if y174.length + l1.length < 17592186044416 then ((some (y174 ++ l1 : List Int)).bind fun y177 => ((lag_Of.f kj4 y171 y177 a2).bind fun bt180 => ((fringeref16_Of.f kj4 l0 l1 a2).bind fun bt184 => ((lag_Cut.f y171 a3).bind fun bt188 => ((fringeref16_Cut.f kj4 l0 a3).bind fun bt195 => ((fringeref16_Same.f kj4 bt180.1 bt184.1).bind fun t202 => (if t202 = true then (if bt180.2 = bt184.2 then ((fringeref13_Same.f kj4 bt188.1 bt195.1).bind fun t203 => (if t203 = true then ((fringeref13_Same.f kj4 bt188.2.1 bt195.2.1).bind fun t204 => (if t204 = true then (if bt188.2.2 = bt195.2.2 then ((fringeref13_Same.f kj4 y171 l0).bind fun t205 => (if t205 = true then ((fringeref13_Same.f kj4 y177 l1).bind fun t206 => (some t206)) else (some false))) else (some false)) else (some false))) else (some false))) else (some false)) else (some false)))))))) else (none)) = some r := by first | (rw [hy174]; with_reducible exact H) | (have H2_ := (Option.bind_some _ _).symm.trans H; rw [hy174]; with_reducible exact H2_) | (have H2_ := (Option.bind_some _ _).symm.trans H; with_reducible exact H2_) | with_reducible exact H | (rw [hy174]; exact H) | exact H
      have Ny174 := Aside0.mk hy174
      clear hy174
      by_cases c11 : y174.length + l1.length < 17592186044416
      rotate_left
      · rw [if_neg c11] at H
        exact absurd H (by simp)
      rw [if_pos c11] at H
      have LMc11 := Aside0.mk c11
      clear c11
      obtain ⟨y177, hy177⟩ : ∃ y_ : List Int, y_ = (y174 ++ l1) := ⟨_, rfl⟩
      replace H : ((lag_Of.f kj4 y171 y177 a2).bind fun bt180 => ((fringeref16_Of.f kj4 l0 l1 a2).bind fun bt184 => ((lag_Cut.f y171 a3).bind fun bt188 => ((fringeref16_Cut.f kj4 l0 a3).bind fun bt195 => ((fringeref16_Same.f kj4 bt180.1 bt184.1).bind fun t202 => (if t202 = true then (if bt180.2 = bt184.2 then ((fringeref13_Same.f kj4 bt188.1 bt195.1).bind fun t203 => (if t203 = true then ((fringeref13_Same.f kj4 bt188.2.1 bt195.2.1).bind fun t204 => (if t204 = true then (if bt188.2.2 = bt195.2.2 then ((fringeref13_Same.f kj4 y171 l0).bind fun t205 => (if t205 = true then ((fringeref13_Same.f kj4 y177 l1).bind fun t206 => (some t206)) else (some false))) else (some false)) else (some false))) else (some false))) else (some false)) else (some false))))))) = some r := by first | (rw [hy177]; with_reducible exact H) | (have H2_ := (Option.bind_some _ _).symm.trans H; rw [hy177]; with_reducible exact H2_) | (have H2_ := (Option.bind_some _ _).symm.trans H; with_reducible exact H2_) | with_reducible exact H | (rw [hy177]; exact H) | exact H
      have Ny177 := Aside0.mk hy177
      clear hy177
      replace H := Option.bind_eq_some_iff.mp H
      obtain ⟨⟨t180, t181⟩, A120, H⟩ := H
      replace H : ((fringeref16_Of.f kj4 l0 l1 a2).bind fun bt184 => ((lag_Cut.f y171 a3).bind fun bt188 => ((fringeref16_Cut.f kj4 l0 a3).bind fun bt195 => ((fringeref16_Same.f kj4 t180 bt184.1).bind fun t202 => (if t202 = true then (if t181 = bt184.2 then ((fringeref13_Same.f kj4 bt188.1 bt195.1).bind fun t203 => (if t203 = true then ((fringeref13_Same.f kj4 bt188.2.1 bt195.2.1).bind fun t204 => (if t204 = true then (if bt188.2.2 = bt195.2.2 then ((fringeref13_Same.f kj4 y171 l0).bind fun t205 => (if t205 = true then ((fringeref13_Same.f kj4 y177 l1).bind fun t206 => (some t206)) else (some false))) else (some false)) else (some false))) else (some false))) else (some false)) else (some false)))))) = some r := H
      have A12 := Aside0.mk A120
      clear A120
      replace H := Option.bind_eq_some_iff.mp H
      obtain ⟨⟨t184, t185⟩, A130, H⟩ := H
      replace H : ((lag_Cut.f y171 a3).bind fun bt188 => ((fringeref16_Cut.f kj4 l0 a3).bind fun bt195 => ((fringeref16_Same.f kj4 t180 t184).bind fun t202 => (if t202 = true then (if t181 = t185 then ((fringeref13_Same.f kj4 bt188.1 bt195.1).bind fun t203 => (if t203 = true then ((fringeref13_Same.f kj4 bt188.2.1 bt195.2.1).bind fun t204 => (if t204 = true then (if bt188.2.2 = bt195.2.2 then ((fringeref13_Same.f kj4 y171 l0).bind fun t205 => (if t205 = true then ((fringeref13_Same.f kj4 y177 l1).bind fun t206 => (some t206)) else (some false))) else (some false)) else (some false))) else (some false))) else (some false)) else (some false))))) = some r := H
      have A13 := Aside0.mk A130
      clear A130
      replace H := Option.bind_eq_some_iff.mp H
      obtain ⟨⟨t188, t189, t190⟩, A140, H⟩ := H
      replace H : ((fringeref16_Cut.f kj4 l0 a3).bind fun bt195 => ((fringeref16_Same.f kj4 t180 t184).bind fun t202 => (if t202 = true then (if t181 = t185 then ((fringeref13_Same.f kj4 t188 bt195.1).bind fun t203 => (if t203 = true then ((fringeref13_Same.f kj4 t189 bt195.2.1).bind fun t204 => (if t204 = true then (if t190 = bt195.2.2 then ((fringeref13_Same.f kj4 y171 l0).bind fun t205 => (if t205 = true then ((fringeref13_Same.f kj4 y177 l1).bind fun t206 => (some t206)) else (some false))) else (some false)) else (some false))) else (some false))) else (some false)) else (some false)))) = some r := H
      have A14 := Aside0.mk A140
      clear A140
      replace H := Option.bind_eq_some_iff.mp H
      obtain ⟨⟨t195, t196, t197⟩, A150, H⟩ := H
      replace H : ((fringeref16_Same.f kj4 t180 t184).bind fun t202 => (if t202 = true then (if t181 = t185 then ((fringeref13_Same.f kj4 t188 t195).bind fun t203 => (if t203 = true then ((fringeref13_Same.f kj4 t189 t196).bind fun t204 => (if t204 = true then (if t190 = t197 then ((fringeref13_Same.f kj4 y171 l0).bind fun t205 => (if t205 = true then ((fringeref13_Same.f kj4 y177 l1).bind fun t206 => (some t206)) else (some false))) else (some false)) else (some false))) else (some false))) else (some false)) else (some false))) = some r := H
      have A15 := Aside0.mk A150
      clear A150
      replace H := Option.bind_eq_some_iff.mp H
      obtain ⟨t202, A160, H⟩ := H
      replace H : (if t202 = true then (if t181 = t185 then ((fringeref13_Same.f kj4 t188 t195).bind fun t203 => (if t203 = true then ((fringeref13_Same.f kj4 t189 t196).bind fun t204 => (if t204 = true then (if t190 = t197 then ((fringeref13_Same.f kj4 y171 l0).bind fun t205 => (if t205 = true then ((fringeref13_Same.f kj4 y177 l1).bind fun t206 => (some t206)) else (some false))) else (some false)) else (some false))) else (some false))) else (some false)) else (some false)) = some r := H
      have A16 := Aside0.mk A160
      clear A160
      by_cases c17 : t202 = true
      rotate_left
      · replace c17 := Bool.eq_false_iff.mpr c17
        subst c17
        have H1 : (some false) = some r := by rw [if_neg (show ¬ (false = true) by decide)] at H; exact H
        clear H
        have H := H1
        clear H1
        exact absurd ((Option.some.inj H).trans HRT.out) (by decide)
      subst c17
      have H1 : (if t181 = t185 then ((fringeref13_Same.f kj4 t188 t195).bind fun t203 => (if t203 = true then ((fringeref13_Same.f kj4 t189 t196).bind fun t204 => (if t204 = true then (if t190 = t197 then ((fringeref13_Same.f kj4 y171 l0).bind fun t205 => (if t205 = true then ((fringeref13_Same.f kj4 y177 l1).bind fun t206 => (some t206)) else (some false))) else (some false)) else (some false))) else (some false))) else (some false)) = some r := by rw [if_pos rfl] at H; exact H
      clear H
      have H := H1
      clear H1
      by_cases c18 : t181 = t185
      rotate_left
      · rw [if_neg c18] at H
        have c18b0 : (t181 == t185) = false := beq_eq_false_iff_ne.mpr c18
        have c18b1 : (t181 != t185) = true := bne_iff_ne.mpr c18
        exact absurd ((Option.some.inj H).trans HRT.out) (by decide)
      rw [if_pos c18] at H
      have c18b0 : (t181 == t185) = true := beq_iff_eq.mpr c18
      have c18b1 : (t181 != t185) = false := bne_eq_false_iff_eq.mpr c18
      clear c18
      replace H := Option.bind_eq_some_iff.mp H
      obtain ⟨t203, A190, H⟩ := H
      replace H : (if t203 = true then ((fringeref13_Same.f kj4 t189 t196).bind fun t204 => (if t204 = true then (if t190 = t197 then ((fringeref13_Same.f kj4 y171 l0).bind fun t205 => (if t205 = true then ((fringeref13_Same.f kj4 y177 l1).bind fun t206 => (some t206)) else (some false))) else (some false)) else (some false))) else (some false)) = some r := H
      have A19 := Aside0.mk A190
      clear A190
      by_cases c20 : t203 = true
      rotate_left
      · replace c20 := Bool.eq_false_iff.mpr c20
        subst c20
        have H1 : (some false) = some r := by rw [if_neg (show ¬ (false = true) by decide)] at H; exact H
        clear H
        have H := H1
        clear H1
        exact absurd ((Option.some.inj H).trans HRT.out) (by decide)
      subst c20
      have H1 : ((fringeref13_Same.f kj4 t189 t196).bind fun t204 => (if t204 = true then (if t190 = t197 then ((fringeref13_Same.f kj4 y171 l0).bind fun t205 => (if t205 = true then ((fringeref13_Same.f kj4 y177 l1).bind fun t206 => (some t206)) else (some false))) else (some false)) else (some false))) = some r := by rw [if_pos rfl] at H; exact H
      clear H
      have H := H1
      clear H1
      replace H := Option.bind_eq_some_iff.mp H
      obtain ⟨t204, A210, H⟩ := H
      replace H : (if t204 = true then (if t190 = t197 then ((fringeref13_Same.f kj4 y171 l0).bind fun t205 => (if t205 = true then ((fringeref13_Same.f kj4 y177 l1).bind fun t206 => (some t206)) else (some false))) else (some false)) else (some false)) = some r := H
      have A21 := Aside0.mk A210
      clear A210
      by_cases c22 : t204 = true
      rotate_left
      · replace c22 := Bool.eq_false_iff.mpr c22
        subst c22
        have H1 : (some false) = some r := by rw [if_neg (show ¬ (false = true) by decide)] at H; exact H
        clear H
        have H := H1
        clear H1
        exact absurd ((Option.some.inj H).trans HRT.out) (by decide)
      subst c22
      have H1 : (if t190 = t197 then ((fringeref13_Same.f kj4 y171 l0).bind fun t205 => (if t205 = true then ((fringeref13_Same.f kj4 y177 l1).bind fun t206 => (some t206)) else (some false))) else (some false)) = some r := by rw [if_pos rfl] at H; exact H
      clear H
      have H := H1
      clear H1
      by_cases c23 : t190 = t197
      rotate_left
      · rw [if_neg c23] at H
        have c23b0 : (t190 == t197) = false := beq_eq_false_iff_ne.mpr c23
        have c23b1 : (t190 != t197) = true := bne_iff_ne.mpr c23
        exact absurd ((Option.some.inj H).trans HRT.out) (by decide)
      rw [if_pos c23] at H
      have c23b0 : (t190 == t197) = true := beq_iff_eq.mpr c23
      have c23b1 : (t190 != t197) = false := bne_eq_false_iff_eq.mpr c23
      clear c23
      replace H := Option.bind_eq_some_iff.mp H
      obtain ⟨t205, A240, H⟩ := H
      replace H : (if t205 = true then ((fringeref13_Same.f kj4 y177 l1).bind fun t206 => (some t206)) else (some false)) = some r := H
      have A24 := Aside0.mk A240
      clear A240
      by_cases c25 : t205 = true
      rotate_left
      · replace c25 := Bool.eq_false_iff.mpr c25
        subst c25
        have H1 : (some false) = some r := by rw [if_neg (show ¬ (false = true) by decide)] at H; exact H
        clear H
        have H := H1
        clear H1
        exact absurd ((Option.some.inj H).trans HRT.out) (by decide)
      subst c25
      have H1 : ((fringeref13_Same.f kj4 y177 l1).bind fun t206 => (some t206)) = some r := by rw [if_pos rfl] at H; exact H
      clear H
      have H := H1
      clear H1
      replace H := Option.bind_eq_some_iff.mp H
      obtain ⟨t206, A260, H⟩ := H
      replace H : (some t206) = some r := H
      have A26 := Aside0.mk A260
      clear A260
      obtain rfl := Option.some.inj H
      go_wp2_with (first | ((with_reducible refine gate_dst (N := 27) rfl ?_); refine Kd.R_lit (Kd.int .i64) _ 3 ?hg (N := 27) ?hd (xs := ([] : List Int)) (inner := []) (ok := fun _ => True) (okp := fun _ => True) ?hr ?hp (fun _ hk => hk) trivial (Below.refl _ _) (Nat.le_refl _) (by simp) ?_; (case hd => rfl); (case hg => rfl); (case hr => first | (go_simp; done) | (go_simp; rfl)); (case hp => exact (Reps.none _ _)); intro v169 w27 ho28 hb hg_ hnew_; clear hg_ hnew_; (first | rw [← Ny168.out] at ho28 | (simp only [Int.reduceToNat] at ho28; rw [← Ny168.out] at ho28)); have n0_ := Aside0.mk (Kd.R_lower ho28 (below_size (by repeat (first | (with_reducible first | exact HB.out | apply below_alloc | apply pw_below_drewN | apply below_drew1) | exact HB.out)))); have n1_ := Aside0.mk (below_step (by repeat (first | (with_reducible first | exact HB.out | apply below_alloc | apply pw_below_drewN | apply below_drew1) | exact HB.out)) hb); clear HB; have HO170 := n0_; have HB := n1_; clear n0_ n1_; clear hb ho28) | ((with_reducible refine gate_builtin (b := .append) (xs := #[.tmp 27, .tmp 28]) rfl ?_); at_builtin; refine Kd.R_append_rows (Kd.int .i64) (w0 := w) w.heap.size rfl (.tmp 27) (.tmp 28) 22 3 (.int .i64 0) 8 rfl Try.underlying22 info3 rfl (by decide) (by omega) v169 y168 l0 _ _ _ (fun _ => True) (fun _ => False) rfl rfl ?aO ?aR (fun _ _ h => h) (fun _ h => h.elim) ?aF ?aB ?aS ?aL ?_; (case aR => repeat (first | exact (Kd.C_below HR0.out HB.out) | (with_reducible refine Kd.C_alloc ?_ _) | (with_reducible refine Kd.C_drewN ?_ _) | (with_reducible refine Kd.C_drew ?_))); (case aB => exact (by repeat (first | (with_reducible first | exact HB.out | apply below_alloc | apply pw_below_drewN | apply below_drew1) | exact HB.out))); (case aF => exact (fun _ _ => trivial)); (case aO => exact (by (with_reducible repeat (first | apply Kd.R_alloc | apply Kd.R_drewN | apply Kd.R_drew)); exact HO170.out)); (case aS => exact (below_size (by repeat (first | (with_reducible first | exact HB.out | apply below_alloc | apply pw_below_drewN | apply below_drew1) | exact HB.out)))); (case aL => have := LMc10.out; omega); intro v172 w29 ho hb hg hat; rw [← Ny171.out] at ho; have n0_ := Aside0.mk (hb); have n1_ := Aside0.mk (ho); clear HB; clear HO170; have HB := n0_; have HO173 := n1_; clear n0_ n1_; clear ho hb hg hat) | ((with_reducible refine gate_dst (N := 30) rfl ?_); refine Kd.R_lit (Kd.int .i64) _ 3 ?hg (N := 30) ?hd (xs := ([] : List Int)) (inner := []) (ok := fun _ => True) (okp := fun _ => True) ?hr ?hp (fun _ hk => hk) trivial (Below.refl _ _) (Nat.le_refl _) (by simp) ?_; (case hd => rfl); (case hg => rfl); (case hr => first | (go_simp; done) | (go_simp; rfl)); (case hp => exact (Reps.none _ _)); intro v175 w30 ho31 hb hg_ hnew_; clear hg_ hnew_; (first | rw [← Ny174.out] at ho31 | (simp only [Int.reduceToNat] at ho31; rw [← Ny174.out] at ho31)); have n0_ := Aside0.mk (Kd.R_elder' (by (with_reducible repeat (first | apply Kd.R_alloc | apply Kd.R_drewN | apply Kd.R_drew)); exact HO173.out) (Kd.R_base ho31) hb); have n1_ := Aside0.mk (Kd.R_lower (Kd.R_new' ho31 (Kd.R_lt (by (with_reducible repeat (first | apply Kd.R_alloc | apply Kd.R_drewN | apply Kd.R_drew)); exact HO173.out))) (below_size (by repeat (first | (with_reducible first | exact HB.out | apply below_alloc | apply pw_below_drewN | apply below_drew1) | exact HB.out)))); have n2_ := Aside0.mk (below_step (by repeat (first | (with_reducible first | exact HB.out | apply below_alloc | apply pw_below_drewN | apply below_drew1) | exact HB.out)) hb); clear HO173; clear HB; have HO173 := n0_; have HO176 := n1_; have HB := n2_; clear n0_ n1_ n2_; clear hb ho31) | ((with_reducible refine gate_builtin (b := .append) (xs := #[.tmp 30, .tmp 31]) rfl ?_); at_builtin; refine Kd.R_append_rows (Kd.int .i64) (w0 := w) w.heap.size rfl (.tmp 30) (.tmp 31) 22 3 (.int .i64 0) 8 rfl Try.underlying22 info3 rfl (by decide) (by omega) v175 y174 l1 _ _ _ (fun k_ => some k_ ≠ (v172 : Value).ownBlock) (fun _ => False) rfl rfl ?aO ?aR (fun _ _ h => h) (fun _ h => h.elim) ?aF ?aB ?aS ?aL ?_; (case aR => repeat (first | exact (Kd.C_below HR1.out HB.out) | (with_reducible refine Kd.C_alloc ?_ _) | (with_reducible refine Kd.C_drewN ?_ _) | (with_reducible refine Kd.C_drew ?_))); (case aB => exact (by repeat (first | (with_reducible first | exact HB.out | apply below_alloc | apply pw_below_drewN | apply below_drew1) | exact HB.out))); (case aF => exact (fun k_ hk => Kd.fresh' (Kd.R_lt (by (with_reducible repeat (first | apply Kd.R_alloc | apply Kd.R_drewN | apply Kd.R_drew)); exact HO173.out)) k_ hk)); (case aO => exact (by (with_reducible repeat (first | apply Kd.R_alloc | apply Kd.R_drewN | apply Kd.R_drew)); exact Kd.R_mono HO176.out (fun _ hk => hk.2))); (case aS => exact (below_size (by repeat (first | (with_reducible first | exact HB.out | apply below_alloc | apply pw_below_drewN | apply below_drew1) | exact HB.out)))); (case aL => have := LMc11.out; omega); intro v178 w32 ho hb hg hat; rw [← Ny177.out] at ho; have n0_ := Aside0.mk (Kd.R_after (ok := (fun _ => True)) (by (with_reducible repeat (first | apply Kd.R_alloc | apply Kd.R_drewN | apply Kd.R_drew)); exact HO173.out) hg hat); have n1_ := Aside0.mk (hb); have n2_ := Aside0.mk (ho); clear HO173; clear HB; clear HO176; have HO173 := n0_; have HB := n1_; have HO179 := n2_; clear n0_ n1_ n2_; clear ho hb hg hat; obtain ⟨Ao33, co33, eo33⟩ := Kd.R_slice HO173.out; subst eo33; obtain ⟨Ao34, co34, eo34⟩ := Kd.R_slice HO179.out; subst eo34) | ((with_reducible refine gate_callee (f := 10) rfl ?_); refine goesL_ (some 37) rfl rfl Try.func10 (by kernel_rfl) rfl #[.slice Ao33 y171.length co33, .slice Ao34 y177.length co34, .int .i64 a2] rfl (by (try simp only [List.map_toArray, List.map_cons, List.map_nil]); first | done | rfl | (simp only [List.length_drop, List.length_take]; rfl)) ?_; (with_reducible refine (lag_Of.calls kj4 _ _ y171 _ _ y177 a2 t180 t181 _ ?side1 ?side2 ?side3 ?side4 A12.out).mono ?_); (case side1 => repeat (first | exact (Kd.R_reads' HO173.out).2.2 | (with_reducible refine Kd.C_alloc ?_ _) | (with_reducible refine Kd.C_drewN ?_ _) | (with_reducible refine Kd.C_drew ?_))); (case side2 => exact (Kd.R_reads' HO173.out).2.1); (case side3 => repeat (first | exact (Kd.R_reads' HO179.out).2.2 | (with_reducible refine Kd.C_alloc ?_ _) | (with_reducible refine Kd.C_drewN ?_ _) | (with_reducible refine Kd.C_drew ?_))); (case side4 => exact (Kd.R_reads' HO179.out).2.1); rintro e w35 ⟨v182, rfl, ho0, hb⟩; refine ⟨_, rfl, ?_⟩; have n0_ := Aside0.mk (Kd.R_below (by (with_reducible repeat (first | apply Kd.R_alloc | apply Kd.R_drewN | apply Kd.R_drew)); exact HO173.out) hb); have n1_ := Aside0.mk (Kd.R_below (by (with_reducible repeat (first | apply Kd.R_alloc | apply Kd.R_drewN | apply Kd.R_drew)); exact HO179.out) hb); have n2_ := Aside0.mk (Kd.R_lower ho0 (below_size (by repeat (first | (with_reducible first | exact HB.out | apply below_alloc | apply pw_below_drewN | apply below_drew1) | exact HB.out)))); have n3_ := Aside0.mk (below_step (by repeat (first | (with_reducible first | exact HB.out | apply below_alloc | apply pw_below_drewN | apply below_drew1) | exact HB.out)) hb); clear HO173; clear HO179; clear HB; have HO173 := n0_; have HO179 := n1_; have HO183 := n2_; have HB := n3_; clear n0_ n1_ n2_ n3_; (try clear hb); (try clear hb2); (try clear hk); (try clear hi); (try clear ho0)) | ((with_reducible refine gate_callee (f := 11) rfl ?_); refine goesL_ (some 44) rfl rfl Try.func11 (by kernel_rfl) rfl #[.slice A0 l0.length c0, .slice A1 l1.length c1, .int .i64 a2] rfl (by (try simp only [List.map_toArray, List.map_cons, List.map_nil]); first | done | rfl | (simp only [List.length_drop, List.length_take]; rfl)) ?_; (with_reducible refine (fringeref16_Of.calls kj4 _ _ l0 _ _ l1 a2 t184 t185 _ ?side1 ?side2 ?side3 ?side4 A13.out).mono ?_); (case side1 => repeat (first | exact (Kd.C_below HR0.out HB.out) | (with_reducible refine Kd.C_alloc ?_ _) | (with_reducible refine Kd.C_drewN ?_ _) | (with_reducible refine Kd.C_drew ?_))); (case side2 => exact HC0.out); (case side3 => repeat (first | exact (Kd.C_below HR1.out HB.out) | (with_reducible refine Kd.C_alloc ?_ _) | (with_reducible refine Kd.C_drewN ?_ _) | (with_reducible refine Kd.C_drew ?_))); (case side4 => exact HC1.out); rintro e w36 ⟨v186, rfl, ho0, hb⟩; refine ⟨_, rfl, ?_⟩; have n0_ := Aside0.mk (Kd.R_below (by (with_reducible repeat (first | apply Kd.R_alloc | apply Kd.R_drewN | apply Kd.R_drew)); exact HO173.out) hb); have n1_ := Aside0.mk (Kd.R_below (by (with_reducible repeat (first | apply Kd.R_alloc | apply Kd.R_drewN | apply Kd.R_drew)); exact HO179.out) hb); have n2_ := Aside0.mk (Kd.R_elder' (by (with_reducible repeat (first | apply Kd.R_alloc | apply Kd.R_drewN | apply Kd.R_drew)); exact HO183.out) (Kd.R_base ho0) hb); have n3_ := Aside0.mk (Kd.R_lower (Kd.R_new' ho0 (Kd.R_lt (by (with_reducible repeat (first | apply Kd.R_alloc | apply Kd.R_drewN | apply Kd.R_drew)); exact HO183.out))) (below_size (by repeat (first | (with_reducible first | exact HB.out | apply below_alloc | apply pw_below_drewN | apply below_drew1) | exact HB.out)))); have n4_ := Aside0.mk (below_step (by repeat (first | (with_reducible first | exact HB.out | apply below_alloc | apply pw_below_drewN | apply below_drew1) | exact HB.out)) hb); clear HO173; clear HO179; clear HO183; clear HB; have HO173 := n0_; have HO179 := n1_; have HO183 := n2_; have HO187 := n3_; have HB := n4_; clear n0_ n1_ n2_ n3_ n4_; (try clear hb); (try clear hb2); (try clear hk); (try clear hi); (try clear ho0)) | ((with_reducible refine gate_callee (f := 12) rfl ?_); refine goesL_ (some 50) rfl rfl Try.func12 (by kernel_rfl) rfl #[.slice Ao33 y171.length co33, .int .i64 a3] rfl (by (try simp only [List.map_toArray, List.map_cons, List.map_nil]); first | done | rfl | (simp only [List.length_drop, List.length_take]; rfl)) ?_; (with_reducible refine (lag_Cut.calls _ _ y171 a3 t188 t189 t190 _ ?side1 ?side2 A14.out).mono ?_); (case side1 => repeat (first | exact (Kd.R_reads' HO173.out).2.2 | (with_reducible refine Kd.C_alloc ?_ _) | (with_reducible refine Kd.C_drewN ?_ _) | (with_reducible refine Kd.C_drew ?_))); (case side2 => exact (Kd.R_reads' HO173.out).2.1); rintro e w37 ⟨v191, v193, rfl, ho0, ho1, hb⟩; refine ⟨_, rfl, ?_⟩; have n0_ := Aside0.mk (Kd.R_mono (Kd.R_told (Kd.R_told (Kd.R_old (by (with_reducible repeat (first | apply Kd.R_alloc | apply Kd.R_drewN | apply Kd.R_drew)); exact HO173.out) hb) (Kd.R_base ho0)) (Kd.R_base ho1)) (fun _ h_ => h_.1)); have n1_ := Aside0.mk (Kd.R_mono (Kd.R_told (Kd.R_told (Kd.R_old (by (with_reducible repeat (first | apply Kd.R_alloc | apply Kd.R_drewN | apply Kd.R_drew)); exact HO179.out) hb) (Kd.R_base ho0)) (Kd.R_base ho1)) (fun _ h_ => h_.1)); have n2_ := Aside0.mk (Kd.R_below (by (with_reducible repeat (first | apply Kd.R_alloc | apply Kd.R_drewN | apply Kd.R_drew)); exact HO183.out) hb); have n3_ := Aside0.mk (Kd.R_below (by (with_reducible repeat (first | apply Kd.R_alloc | apply Kd.R_drewN | apply Kd.R_drew)); exact HO187.out) hb); have n4_ := Aside0.mk (Kd.R_lower (Kd.R_new' (Kd.R_new' ho0 (Kd.R_lt (by (with_reducible repeat (first | apply Kd.R_alloc | apply Kd.R_drewN | apply Kd.R_drew)); exact HO173.out))) (Kd.R_lt (by (with_reducible repeat (first | apply Kd.R_alloc | apply Kd.R_drewN | apply Kd.R_drew)); exact HO179.out))) (below_size (by repeat (first | (with_reducible first | exact HB.out | apply below_alloc | apply pw_below_drewN | apply below_drew1) | exact HB.out)))); have n5_ := Aside0.mk (Kd.R_lower (Kd.R_new' (Kd.R_new' ho1 (Kd.R_lt (by (with_reducible repeat (first | apply Kd.R_alloc | apply Kd.R_drewN | apply Kd.R_drew)); exact HO173.out))) (Kd.R_lt (by (with_reducible repeat (first | apply Kd.R_alloc | apply Kd.R_drewN | apply Kd.R_drew)); exact HO179.out))) (below_size (by repeat (first | (with_reducible first | exact HB.out | apply below_alloc | apply pw_below_drewN | apply below_drew1) | exact HB.out)))); have n6_ := Aside0.mk (below_step (by repeat (first | (with_reducible first | exact HB.out | apply below_alloc | apply pw_below_drewN | apply below_drew1) | exact HB.out)) hb); clear HO173; clear HO179; clear HO183; clear HO187; clear HB; have HO173 := n0_; have HO179 := n1_; have HO183 := n2_; have HO187 := n3_; have HO192 := n4_; have HO194 := n5_; have HB := n6_; clear n0_ n1_ n2_ n3_ n4_ n5_ n6_; (try clear hb); (try clear hb2); (try clear hk); (try clear hi); (try clear ho0); (try clear ho1)) | ((with_reducible refine gate_callee (f := 13) rfl ?_); refine goesL_ (some 57) rfl rfl Try.func13 (by kernel_rfl) rfl #[.slice A0 l0.length c0, .int .i64 a3] rfl (by (try simp only [List.map_toArray, List.map_cons, List.map_nil]); first | done | rfl | (simp only [List.length_drop, List.length_take]; rfl)) ?_; (with_reducible refine (fringeref16_Cut.calls kj4 _ _ l0 a3 t195 t196 t197 _ ?side1 ?side2 A15.out).mono ?_); (case side1 => repeat (first | exact (Kd.C_below HR0.out HB.out) | (with_reducible refine Kd.C_alloc ?_ _) | (with_reducible refine Kd.C_drewN ?_ _) | (with_reducible refine Kd.C_drew ?_))); (case side2 => exact HC0.out); rintro e w38 ⟨v198, v200, rfl, ho0, ho1, hb⟩; refine ⟨_, rfl, ?_⟩; have n0_ := Aside0.mk (Kd.R_mono (Kd.R_told (Kd.R_told (Kd.R_old (by (with_reducible repeat (first | apply Kd.R_alloc | apply Kd.R_drewN | apply Kd.R_drew)); exact HO173.out) hb) (Kd.R_base ho0)) (Kd.R_base ho1)) (fun _ h_ => h_.1)); have n1_ := Aside0.mk (Kd.R_mono (Kd.R_told (Kd.R_told (Kd.R_old (by (with_reducible repeat (first | apply Kd.R_alloc | apply Kd.R_drewN | apply Kd.R_drew)); exact HO179.out) hb) (Kd.R_base ho0)) (Kd.R_base ho1)) (fun _ h_ => h_.1)); have n2_ := Aside0.mk (Kd.R_below (by (with_reducible repeat (first | apply Kd.R_alloc | apply Kd.R_drewN | apply Kd.R_drew)); exact HO183.out) hb); have n3_ := Aside0.mk (Kd.R_below (by (with_reducible repeat (first | apply Kd.R_alloc | apply Kd.R_drewN | apply Kd.R_drew)); exact HO187.out) hb); have n4_ := Aside0.mk (Kd.R_mono (Kd.R_told (Kd.R_told (Kd.R_old (by (with_reducible repeat (first | apply Kd.R_alloc | apply Kd.R_drewN | apply Kd.R_drew)); exact HO192.out) hb) (Kd.R_base ho0)) (Kd.R_base ho1)) (fun _ h_ => h_.1)); have n5_ := Aside0.mk (Kd.R_mono (Kd.R_told (Kd.R_told (Kd.R_old (by (with_reducible repeat (first | apply Kd.R_alloc | apply Kd.R_drewN | apply Kd.R_drew)); exact HO194.out) hb) (Kd.R_base ho0)) (Kd.R_base ho1)) (fun _ h_ => h_.1)); have n6_ := Aside0.mk (Kd.R_lower (Kd.R_new' (Kd.R_new' (Kd.R_new' (Kd.R_new' ho0 (Kd.R_lt (by (with_reducible repeat (first | apply Kd.R_alloc | apply Kd.R_drewN | apply Kd.R_drew)); exact HO173.out))) (Kd.R_lt (by (with_reducible repeat (first | apply Kd.R_alloc | apply Kd.R_drewN | apply Kd.R_drew)); exact HO179.out))) (Kd.R_lt (by (with_reducible repeat (first | apply Kd.R_alloc | apply Kd.R_drewN | apply Kd.R_drew)); exact HO192.out))) (Kd.R_lt (by (with_reducible repeat (first | apply Kd.R_alloc | apply Kd.R_drewN | apply Kd.R_drew)); exact HO194.out))) (below_size (by repeat (first | (with_reducible first | exact HB.out | apply below_alloc | apply pw_below_drewN | apply below_drew1) | exact HB.out)))); have n7_ := Aside0.mk (Kd.R_lower (Kd.R_new' (Kd.R_new' (Kd.R_new' (Kd.R_new' ho1 (Kd.R_lt (by (with_reducible repeat (first | apply Kd.R_alloc | apply Kd.R_drewN | apply Kd.R_drew)); exact HO173.out))) (Kd.R_lt (by (with_reducible repeat (first | apply Kd.R_alloc | apply Kd.R_drewN | apply Kd.R_drew)); exact HO179.out))) (Kd.R_lt (by (with_reducible repeat (first | apply Kd.R_alloc | apply Kd.R_drewN | apply Kd.R_drew)); exact HO192.out))) (Kd.R_lt (by (with_reducible repeat (first | apply Kd.R_alloc | apply Kd.R_drewN | apply Kd.R_drew)); exact HO194.out))) (below_size (by repeat (first | (with_reducible first | exact HB.out | apply below_alloc | apply pw_below_drewN | apply below_drew1) | exact HB.out)))); have n8_ := Aside0.mk (below_step (by repeat (first | (with_reducible first | exact HB.out | apply below_alloc | apply pw_below_drewN | apply below_drew1) | exact HB.out)) hb); clear HO173; clear HO179; clear HO183; clear HO187; clear HO192; clear HO194; clear HB; have HO173 := n0_; have HO179 := n1_; have HO183 := n2_; have HO187 := n3_; have HO192 := n4_; have HO194 := n5_; have HO199 := n6_; have HO201 := n7_; have HB := n8_; clear n0_ n1_ n2_ n3_ n4_ n5_ n6_ n7_ n8_; (try clear hb); (try clear hb2); (try clear hk); (try clear hi); (try clear ho0); (try clear ho1); obtain ⟨Ao39, co39, eo39⟩ := Kd.R_slice HO183.out; subst eo39; obtain ⟨Ao40, co40, eo40⟩ := Kd.R_slice HO187.out; subst eo40) | ((with_reducible refine gate_callee (f := 14) rfl ?_); refine goesL_ (some 63) rfl rfl Try.func14 (by kernel_rfl) rfl #[.slice Ao39 t180.length co39, .slice Ao40 t184.length co40] rfl (by (try simp only [List.map_toArray, List.map_cons, List.map_nil]); first | done | rfl | (simp only [List.length_drop, List.length_take]; rfl)) ?_; (with_reducible refine (fringeref16_Same.calls kj4 _ _ t180 _ _ t184 true _ ?side1 ?side2 ?side3 ?side4 A16.out).mono ?_); (case side1 => repeat (first | exact (Kd.R_reads' HO183.out).2.2 | (with_reducible refine Kd.C_alloc ?_ _) | (with_reducible refine Kd.C_drewN ?_ _) | (with_reducible refine Kd.C_drew ?_))); (case side2 => exact (Kd.R_reads' HO183.out).2.1); (case side3 => repeat (first | exact (Kd.R_reads' HO187.out).2.2 | (with_reducible refine Kd.C_alloc ?_ _) | (with_reducible refine Kd.C_drewN ?_ _) | (with_reducible refine Kd.C_drew ?_))); (case side4 => exact (Kd.R_reads' HO187.out).2.1); rintro e w' ⟨rfl, ⟨nd, rfl⟩⟩; refine ⟨_, rfl, ?_⟩; obtain ⟨Ao41, co41, eo41⟩ := Kd.R_slice HO192.out; subst eo41; obtain ⟨Ao42, co42, eo42⟩ := Kd.R_slice HO199.out; subst eo42) | (go_at_call 15; (with_reducible refine (fringeref13_Same.calls kj4 _ _ t188 _ _ t195 true _ ?side1 ?side2 ?side3 ?side4 A19.out).mono ?_); (case side1 => repeat (first | exact (Kd.R_reads' HO192.out).2.2 | (with_reducible refine Kd.C_alloc ?_ _) | (with_reducible refine Kd.C_drewN ?_ _) | (with_reducible refine Kd.C_drew ?_))); (case side2 => exact (Kd.R_reads' HO192.out).2.1); (case side3 => repeat (first | exact (Kd.R_reads' HO199.out).2.2 | (with_reducible refine Kd.C_alloc ?_ _) | (with_reducible refine Kd.C_drewN ?_ _) | (with_reducible refine Kd.C_drew ?_))); (case side4 => exact (Kd.R_reads' HO199.out).2.1); rintro e w' ⟨rfl, ⟨nd, rfl⟩⟩; obtain ⟨Ao43, co43, eo43⟩ := Kd.R_slice HO194.out; subst eo43; obtain ⟨Ao44, co44, eo44⟩ := Kd.R_slice HO201.out; subst eo44) | (go_at_call 15; (with_reducible refine (fringeref13_Same.calls kj4 _ _ t189 _ _ t196 true _ ?side1 ?side2 ?side3 ?side4 A21.out).mono ?_); (case side1 => repeat (first | exact (Kd.R_reads' HO194.out).2.2 | (with_reducible refine Kd.C_alloc ?_ _) | (with_reducible refine Kd.C_drewN ?_ _) | (with_reducible refine Kd.C_drew ?_))); (case side2 => exact (Kd.R_reads' HO194.out).2.1); (case side3 => repeat (first | exact (Kd.R_reads' HO201.out).2.2 | (with_reducible refine Kd.C_alloc ?_ _) | (with_reducible refine Kd.C_drewN ?_ _) | (with_reducible refine Kd.C_drew ?_))); (case side4 => exact (Kd.R_reads' HO201.out).2.1); rintro e w' ⟨rfl, ⟨nd, rfl⟩⟩) | (go_at_call 15; (with_reducible refine (fringeref13_Same.calls kj4 _ _ y171 _ _ l0 true _ ?side1 ?side2 ?side3 ?side4 A24.out).mono ?_); (case side1 => repeat (first | exact (Kd.R_reads' HO173.out).2.2 | (with_reducible refine Kd.C_alloc ?_ _) | (with_reducible refine Kd.C_drewN ?_ _) | (with_reducible refine Kd.C_drew ?_))); (case side2 => exact (Kd.R_reads' HO173.out).2.1); (case side3 => repeat (first | exact (Kd.C_below HR0.out (by repeat (first | (with_reducible first | exact HB.out | apply below_alloc | apply pw_below_drewN | apply below_drew1) | exact HB.out))) | (with_reducible refine Kd.C_alloc ?_ _) | (with_reducible refine Kd.C_drewN ?_ _) | (with_reducible refine Kd.C_drew ?_))); (case side4 => exact HC0.out); rintro e w' ⟨rfl, ⟨nd, rfl⟩⟩) | (go_at_call 15; (with_reducible refine (fringeref13_Same.calls kj4 _ _ y177 _ _ l1 t206 _ ?side1 ?side2 ?side3 ?side4 A26.out).mono ?_); (case side1 => repeat (first | exact (Kd.R_reads' HO179.out).2.2 | (with_reducible refine Kd.C_alloc ?_ _) | (with_reducible refine Kd.C_drewN ?_ _) | (with_reducible refine Kd.C_drew ?_))); (case side2 => exact (Kd.R_reads' HO179.out).2.1); (case side3 => repeat (first | exact (Kd.C_below HR1.out (by repeat (first | (with_reducible first | exact HB.out | apply below_alloc | apply pw_below_drewN | apply below_drew1) | exact HB.out))) | (with_reducible refine Kd.C_alloc ?_ _) | (with_reducible refine Kd.C_drewN ?_ _) | (with_reducible refine Kd.C_drew ?_))); (case side4 => exact HC1.out); rintro e w' ⟨rfl, ⟨nd, rfl⟩⟩))
      go_ret
      exact ⟨by first | rfl | (simp [errW_none, errW_some] <;> rfl) | (simp [*, errW_none, errW_some] <;> rfl), by repeat (first | (with_reducible first | exact HB.out | apply below_alloc | apply pw_below_drewN | apply below_drew1) | exact HB.out)⟩
/-- THE ONE PURE STATEMENT of fringelaw16_LagOf: yours. -/
def fringelaw16_LagOf.Pure : Prop := ∀ (l0 : List Int) (l1 : List Int) (a2 : Int) (a3 : Int), l0.length ≤ maxLen → l0.length * 8 ≤ 140737488351232 → (∀ x ∈ l0, (Lit.int .i64 x).wf = true) → l1.length ≤ maxLen → l1.length * 8 ≤ 140737488351232 → (∀ x ∈ l1, (Lit.int .i64 x).wf = true) → (Lit.int .i64 a2).wf = true → (Lit.int .i64 a3).wf = true → ∃ k, fringelaw16_LagOf.f k l0 l1 a2 a3 = some true
theorem fringelaw16_LagOf.walk (P : fringelaw16_LagOf.Pure) (a0 : Option Addr) (len0 cap0 : Nat) (z0 : List Int) (a1 : Option Addr) (len1 cap1 : Nat) (z1 : List Int) (a2 : Int) (a3 : Int) (w : World) (w0 : (a0 = none ∧ len0 = 0 ∧ cap0 = 0 ∧ z0 = []) ∨ ∃ x, a0 = some x ∧ len0 ≤ cap0 ∧ cap0 ≤ maxLen ∧ z0.length = cap0 ∧ (∀ i, i < z0.length → w.cell? (x.add i) = some (.int .i64 (z0.getD i 0))) ∧ ∀ n ∈ z0, (Lit.int .i64 n).wf = true) (y0 : len0 * 8 ≤ 140737488351232) (w1 : (a1 = none ∧ len1 = 0 ∧ cap1 = 0 ∧ z1 = []) ∨ ∃ x, a1 = some x ∧ len1 ≤ cap1 ∧ cap1 ≤ maxLen ∧ z1.length = cap1 ∧ (∀ i, i < z1.length → w.cell? (x.add i) = some (.int .i64 (z1.getD i 0))) ∧ ∀ n ∈ z1, (Lit.int .i64 n).wf = true) (y1 : len1 * 8 ≤ 140737488351232) (w2 : (Lit.int .i64 a2).wf = true) (w3 : (Lit.int .i64 a3).wf = true) :
    Calls Try.prog 3 #[.slice a0 len0 cap0, .slice a1 len1 cap1, .int .i64 a2, .int .i64 a3] w fun e w' => e = .returned (.bool true) ∧ Below w.heap.size w w' := by
  obtain ⟨l0, rfl, hr0, hm0, hw0, hc0⟩ := ReadsInt.ofRowC w0
  obtain ⟨l1, rfl, hr1, hm1, hw1, hc1⟩ := ReadsInt.ofRowC w1
  obtain ⟨k, h⟩ := P l0 l1 a2 a3 hm0 y0 hw0 hm1 y1 hw1 w2 w3
  refine (fringelaw16_LagOf.calls k _ _ l0 _ _ l1 a2 a3 true w (Kd.C_of_reads (d := (0 : Int)) (h1 := fun _ => rfl) hr0) hc0 (Kd.C_of_reads (d := (0 : Int)) (h1 := fun _ => rfl) hr1) hc1 rfl h).mono ?_
  rintro e w' ⟨rfl, hd⟩
  exact ⟨rfl, hd⟩

end Go.Proofs.Ytajdbccapandgaa.PAll
