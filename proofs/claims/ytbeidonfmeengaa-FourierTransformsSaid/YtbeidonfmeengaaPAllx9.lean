-- Written by a program of this session, after the kit's print
import Derived.Test.YtbeidonfmeengaaPAllx0
import Derived.Test.YtbeidonfmeengaaPAllx1
import Derived.Test.YtbeidonfmeengaaPAllx3
import Derived.Test.YtbeidonfmeengaaPAllx4
import Derived.Test.YtbeidonfmeengaaPAllx5
import Derived.Test.YtbeidonfmeengaaPAllx6
import Derived.Test.YtbeidonfmeengaaPAllx7
import Derived.Test.YtbeidonfmeengaaPAllx8
namespace Go.Proofs.Ytbeidonfmeengaa.PAll
open Go.RowKit Go.Proofs.YtbeidonfmeengaaW.PrintWords Go.Proofs.YtbeidonfmeengaaW.PrintLast Go.Proofs.YtbeidonfmeengaaW.PrintMore
attribute [local go_sem] max2_int min2_int max_two min_two max_three min_three max_four min_four   -- for this text's walks alone
set_option linter.unusedVariables false
set_option linter.unusedSimpArgs false

/-! ### fringelaw11_FourierTransforms: function 3 -/
def fringelaw11_FourierTransforms.j0 : Nat → Int → List Int → List Int → Bool → Option (Bool)
  | 0, _, _, _, _ => none
  | k + 1, x0, x1, x2, x25 => if x25 = true then (some true) else ((some (([] : List Int) : List Int)).bind fun y237 => (if y237.length + x1.length < 17592186044416 then ((fourier_Forward.f k x0 x1).bind fun bt243 => ((fringeref11_Forward.f k x0 x1).bind fun bt247 => ((fourier_Back.f k x0 x1).bind fun bt251 => ((fringeref11_Back.f k x0 x1).bind fun bt255 => ((fourier_Convolve.f k x0 x1 x2).bind fun bt259 => ((fringeref11_Convolve.f k x0 x1 x2).bind fun bt263 => ((fourier_Check.f k x0 x1).bind fun t267 => ((fringeref11_Check.f k x0 x1).bind fun t268 => (if t267 = t268 then ((fringeref10_Same.f k bt243.1 bt247.1).bind fun t269 => (if t269 = true then (if bt243.2 = bt247.2 then ((fringeref10_Same.f k bt251.1 bt255.1).bind fun t270 => (if t270 = true then (if bt251.2 = bt255.2 then ((fringeref10_Same.f k bt259.1 bt263.1).bind fun t271 => (if t271 = true then (if bt259.2 = bt263.2 then ((fringeref10_Same.f k x1 (y237 ++ x1)).bind fun t272 => (some t272)) else (some false)) else (some false))) else (some false)) else (some false))) else (some false)) else (some false))) else (some false)))))))))) else (none)))
def fringelaw11_FourierTransforms.f (k : Nat) (a0 : Int) (l1 : List Int) (l2 : List Int) : Option (Bool) := (fringeref11_Great.f l1).bind fun t235 => (if t235 = true then (fringelaw11_FourierTransforms.j0 k a0 l1 l2 true) else ((fringeref11_Great.f l2).bind fun t236 => (fringelaw11_FourierTransforms.j0 k a0 l1 l2 t236)))
theorem fringelaw11_FourierTransforms.mono_l : ∀ k, (∀ y0 y1 y2 y3, LeO (fringelaw11_FourierTransforms.j0 k y0 y1 y2 y3) (fringelaw11_FourierTransforms.j0 (k + 1) y0 y1 y2 y3))
  | 0 => fun _ _ _ _ r h => by simp [fringelaw11_FourierTransforms.j0] at h
  | k + 1 => by
    have ih0 := fringelaw11_FourierTransforms.mono_l k
    · intro y0 y1 y2 y3
      unfold fringelaw11_FourierTransforms.j0
      repeat' first
      | (with_reducible exact ih0 _ _ _ _)
      | (with_reducible exact fourier_Back.mono _ _ _)
      | (with_reducible exact fourier_Check.mono _ _ _)
      | (with_reducible exact fourier_Convolve.mono _ _ _ _)
      | (with_reducible exact fourier_Forward.mono _ _ _)
      | (with_reducible exact fringeref10_Same.mono _ _ _)
      | (with_reducible exact fringeref11_Back.mono _ _ _)
      | (with_reducible exact fringeref11_Check.mono _ _ _)
      | (with_reducible exact fringeref11_Convolve.mono _ _ _ _)
      | (with_reducible exact fringeref11_Forward.mono _ _ _)
      | (with_reducible exact LeO.refl _)
      | (with_reducible exact LeO.none _)
      | (with_reducible refine LeO.ite ?_ ?_)
      | (with_reducible refine LeO.bind ?_ (fun _ => ?_))
      | exact ih0 _ _ _ _
      | exact fourier_Back.mono _ _ _
      | exact fourier_Check.mono _ _ _
      | exact fourier_Convolve.mono _ _ _ _
      | exact fourier_Forward.mono _ _ _
      | exact fringeref10_Same.mono _ _ _
      | exact fringeref11_Back.mono _ _ _
      | exact fringeref11_Check.mono _ _ _
      | exact fringeref11_Convolve.mono _ _ _ _
      | exact fringeref11_Forward.mono _ _ _
      | exact LeO.none _
      | refine LeO.ite ?_ ?_
      | refine LeO.bind ?_ (fun _ => ?_)
theorem fringelaw11_FourierTransforms.mono : ∀ a0 a1 a2 k, LeO (fringelaw11_FourierTransforms.f k a0 a1 a2) (fringelaw11_FourierTransforms.f (k + 1) a0 a1 a2) := by
  intro a0 a1 a2 k
  have ih0 := fringelaw11_FourierTransforms.mono_l k
  unfold fringelaw11_FourierTransforms.f
  repeat' first
      | (with_reducible exact ih0 _ _ _ _)
      | (with_reducible exact fourier_Back.mono _ _ _)
      | (with_reducible exact fourier_Check.mono _ _ _)
      | (with_reducible exact fourier_Convolve.mono _ _ _ _)
      | (with_reducible exact fourier_Forward.mono _ _ _)
      | (with_reducible exact fringeref10_Same.mono _ _ _)
      | (with_reducible exact fringeref11_Back.mono _ _ _)
      | (with_reducible exact fringeref11_Check.mono _ _ _)
      | (with_reducible exact fringeref11_Convolve.mono _ _ _ _)
      | (with_reducible exact fringeref11_Forward.mono _ _ _)
      | (with_reducible exact LeO.refl _)
      | (with_reducible exact LeO.none _)
      | (with_reducible refine LeO.ite ?_ ?_)
      | (with_reducible refine LeO.bind ?_ (fun _ => ?_))
      | exact ih0 _ _ _ _
      | exact fourier_Back.mono _ _ _
      | exact fourier_Check.mono _ _ _
      | exact fourier_Convolve.mono _ _ _ _
      | exact fourier_Forward.mono _ _ _
      | exact fringeref10_Same.mono _ _ _
      | exact fringeref11_Back.mono _ _ _
      | exact fringeref11_Check.mono _ _ _
      | exact fringeref11_Convolve.mono _ _ _ _
      | exact fringeref11_Forward.mono _ _ _
      | exact LeO.none _
      | refine LeO.ite ?_ ?_
      | refine LeO.bind ?_ (fun _ => ?_)
set_option maxHeartbeats 8000000 in
set_option maxRecDepth 100000 in
theorem fringelaw11_FourierTransforms.calls (k : Nat) (a0 : Int) (A1 : Option Addr) (c1 : Nat) (l1 : List Int) (A2 : Option Addr) (c2 : Nat) (l2 : List Int) (r : Bool) (w : World) (hr1 : Kd.C (Kd.int .i64) w A1 l1.length l1) (hc1 : l1.length ≤ c1) (hr2 : Kd.C (Kd.int .i64) w A2 l2.length l2) (hc2 : l2.length ≤ c2) (hrt : r = true) (h : fringelaw11_FourierTransforms.f k a0 l1 l2 = some r) :
    Calls Try.prog 3 #[.int .i64 a0, .slice A1 l1.length c1, .slice A2 l2.length c2] w fun e w' => e = .returned (.bool r) ∧ Below w.heap.size w w' := by
  have HR1 := Aside0.mk hr1
  have HC1 := Aside0.mk hc1
  clear hr1 hc1
  have HR2 := Aside0.mk hr2
  have HC2 := Aside0.mk hc2
  clear hr2 hc2
  have HB := Aside0.mk (Below.refl w.heap.size w)
  have HRT := Aside0.mk hrt
  clear hrt
  have H : ((fringeref11_Great.f l1).bind fun t235 => (if t235 = true then (fringelaw11_FourierTransforms.j0 k a0 l1 l2 true) else ((fringeref11_Great.f l2).bind fun t236 => (fringelaw11_FourierTransforms.j0 k a0 l1 l2 t236)))) = some r := h
  clear h
  have HC4 := Aside0.mk H
  clear H
  go_enter Try.func3, Try.ntmps3
  go_upto_region 1 with (fail)
  go_cut [25] (fun v25 wc => ∃ (kq : Nat) (x25_3 : Bool), v25 = .bool x25_3 ∧ Aside0 (fringelaw11_FourierTransforms.j0 kq a0 l1 l2 x25_3 = some r) ∧ Aside0 (kq ≤ k) ∧ Aside0 (Below w.heap.size w wc))
  case first =>
    have H := HC4.out
    clear HC4
    replace H := Option.bind_eq_some_iff.mp H
    obtain ⟨t235, A50, H⟩ := H
    replace H : (if t235 = true then (fringelaw11_FourierTransforms.j0 k a0 l1 l2 true) else ((fringeref11_Great.f l2).bind fun t236 => (fringelaw11_FourierTransforms.j0 k a0 l1 l2 t236))) = some r := H
    have A5 := Aside0.mk A50
    clear A50
    by_cases c6 : t235 = true
    · subst c6
      have H1 : (fringelaw11_FourierTransforms.j0 k a0 l1 l2 true) = some r := by rw [if_pos rfl] at H; exact H
      clear H
      have H := H1
      clear H1
      have H' := Aside0.mk H
      clear H
      go_wp2_with (first | ((with_reducible refine gate_callee (f := 10) rfl ?_); refine goesL_ (some 21) rfl rfl Try.func10 (by kernel_rfl) rfl #[.slice A1 l1.length c1] rfl (by (try simp only [List.map_toArray, List.map_cons, List.map_nil]); first | done | rfl | (simp only [List.length_drop, List.length_take]; rfl)) ?_; (with_reducible refine (fringeref11_Great.calls _ _ l1 true _ ?side1 ?side2 A5.out).mono ?_); (case side1 => repeat (first | exact (Kd.C_below HR1.out HB.out) | (with_reducible refine Kd.C_alloc ?_ _) | (with_reducible refine Kd.C_drewN ?_ _) | (with_reducible refine Kd.C_drew ?_))); (case side2 => exact HC1.out); rintro e w' ⟨rfl, ⟨nd, rfl⟩⟩; refine ⟨_, rfl, ?_⟩))
      go_meet
      case rel => exact ⟨_, (true), (by first | rfl | (simp; done) | (simp [*]; done) | (simp [i64_w]; done)), H', ⟨by first | omega | exact Nat.le_refl _⟩, ⟨by repeat (first | (with_reducible first | exact HB.out | apply below_alloc | apply pw_below_drewN | apply below_drew1) | exact HB.out)⟩⟩
    replace c6 := Bool.eq_false_iff.mpr c6
    subst c6
    have H1 : ((fringeref11_Great.f l2).bind fun t236 => (fringelaw11_FourierTransforms.j0 k a0 l1 l2 t236)) = some r := by rw [if_neg (show ¬ (false = true) by decide)] at H; exact H
    clear H
    have H := H1
    clear H1
    replace H := Option.bind_eq_some_iff.mp H
    obtain ⟨t236, A70, H⟩ := H
    replace H : (fringelaw11_FourierTransforms.j0 k a0 l1 l2 t236) = some r := H
    have A7 := Aside0.mk A70
    clear A70
    have H' := Aside0.mk H
    clear H
    go_wp2_with (first | ((with_reducible refine gate_callee (f := 10) rfl ?_); refine goesL_ (some 21) rfl rfl Try.func10 (by kernel_rfl) rfl #[.slice A1 l1.length c1] rfl (by (try simp only [List.map_toArray, List.map_cons, List.map_nil]); first | done | rfl | (simp only [List.length_drop, List.length_take]; rfl)) ?_; (with_reducible refine (fringeref11_Great.calls _ _ l1 false _ ?side1 ?side2 A5.out).mono ?_); (case side1 => repeat (first | exact (Kd.C_below HR1.out HB.out) | (with_reducible refine Kd.C_alloc ?_ _) | (with_reducible refine Kd.C_drewN ?_ _) | (with_reducible refine Kd.C_drew ?_))); (case side2 => exact HC1.out); rintro e w' ⟨rfl, ⟨nd, rfl⟩⟩; refine ⟨_, rfl, ?_⟩) | (go_at_call 10; (with_reducible refine (fringeref11_Great.calls _ _ l2 t236 _ ?side1 ?side2 A7.out).mono ?_); (case side1 => repeat (first | exact (Kd.C_below HR2.out (by repeat (first | (with_reducible first | exact HB.out | apply below_alloc | apply pw_below_drewN | apply below_drew1) | exact HB.out))) | (with_reducible refine Kd.C_alloc ?_ _) | (with_reducible refine Kd.C_drewN ?_ _) | (with_reducible refine Kd.C_drew ?_))); (case side2 => exact HC2.out); rintro e w' ⟨rfl, ⟨nd, rfl⟩⟩))
    go_meet
    case rel => exact ⟨_, (t236), (by first | rfl | (simp; done) | (simp [*]; done) | (simp [i64_w]; done)), H', ⟨by first | omega | exact Nat.le_refl _⟩, ⟨by repeat (first | (with_reducible first | exact HB.out | apply below_alloc | apply pw_below_drewN | apply below_drew1) | exact HB.out)⟩⟩
  case rest =>
    clear HC4
    try clear c1
    try clear c2
    try clear p2
    try clear c3
    try clear c6
    obtain ⟨kq, x25_3, rfl, HA, HJ3, HB⟩ := hcut
    cases kq with
    | zero => exact absurd HA.out (by simp [fringelaw11_FourierTransforms.j0])
    | succ kj3 =>
      have H := HA.out
      clear HA
      simp only [fringelaw11_FourierTransforms.j0] at H
      by_cases c8 : x25_3 = true
      · subst c8
        have H1 : (some true) = some r := by rw [if_pos rfl] at H; exact H
        clear H
        have H := H1
        clear H1
        obtain rfl := Option.some.inj H
        go_wp2
        go_ret
        exact ⟨by first | rfl | (simp [errW_none, errW_some] <;> rfl) | (simp [*, errW_none, errW_some] <;> rfl), by repeat (first | (with_reducible first | exact HB.out | apply below_alloc | apply pw_below_drewN | apply below_drew1) | exact HB.out)⟩
      replace c8 := Bool.eq_false_iff.mpr c8
      subst c8
      have H1 : ((some (([] : List Int) : List Int)).bind fun y237 => (if y237.length + l1.length < 17592186044416 then ((fourier_Forward.f kj3 a0 l1).bind fun bt243 => ((fringeref11_Forward.f kj3 a0 l1).bind fun bt247 => ((fourier_Back.f kj3 a0 l1).bind fun bt251 => ((fringeref11_Back.f kj3 a0 l1).bind fun bt255 => ((fourier_Convolve.f kj3 a0 l1 l2).bind fun bt259 => ((fringeref11_Convolve.f kj3 a0 l1 l2).bind fun bt263 => ((fourier_Check.f kj3 a0 l1).bind fun t267 => ((fringeref11_Check.f kj3 a0 l1).bind fun t268 => (if t267 = t268 then ((fringeref10_Same.f kj3 bt243.1 bt247.1).bind fun t269 => (if t269 = true then (if bt243.2 = bt247.2 then ((fringeref10_Same.f kj3 bt251.1 bt255.1).bind fun t270 => (if t270 = true then (if bt251.2 = bt255.2 then ((fringeref10_Same.f kj3 bt259.1 bt263.1).bind fun t271 => (if t271 = true then (if bt259.2 = bt263.2 then ((fringeref10_Same.f kj3 l1 (y237 ++ l1)).bind fun t272 => (some t272)) else (some false)) else (some false))) else (some false)) else (some false))) else (some false)) else (some false))) else (some false)))))))))) else (none))) = some r := by rw [if_neg (show ¬ (false = true) by decide)] at H; exact H
      clear H
      have H := H1
      clear H1
      obtain ⟨y237, hy237⟩ : ∃ y_ : List Int, y_ = (([] : List Int)) := ⟨_, rfl⟩
      replace H : (if y237.length + l1.length < 17592186044416 then ((fourier_Forward.f kj3 a0 l1).bind fun bt243 => ((fringeref11_Forward.f kj3 a0 l1).bind fun bt247 => ((fourier_Back.f kj3 a0 l1).bind fun bt251 => ((fringeref11_Back.f kj3 a0 l1).bind fun bt255 => ((fourier_Convolve.f kj3 a0 l1 l2).bind fun bt259 => ((fringeref11_Convolve.f kj3 a0 l1 l2).bind fun bt263 => ((fourier_Check.f kj3 a0 l1).bind fun t267 => ((fringeref11_Check.f kj3 a0 l1).bind fun t268 => (if t267 = t268 then ((fringeref10_Same.f kj3 bt243.1 bt247.1).bind fun t269 => (if t269 = true then (if bt243.2 = bt247.2 then ((fringeref10_Same.f kj3 bt251.1 bt255.1).bind fun t270 => (if t270 = true then (if bt251.2 = bt255.2 then ((fringeref10_Same.f kj3 bt259.1 bt263.1).bind fun t271 => (if t271 = true then (if bt259.2 = bt263.2 then ((fringeref10_Same.f kj3 l1 (y237 ++ l1)).bind fun t272 => (some t272)) else (some false)) else (some false))) else (some false)) else (some false))) else (some false)) else (some false))) else (some false)))))))))) else (none)) = some r := by first | (rw [hy237]; with_reducible exact H) | (have H2_ := (Option.bind_some _ _).symm.trans H; rw [hy237]; with_reducible exact H2_) | (have H2_ := (Option.bind_some _ _).symm.trans H; with_reducible exact H2_) | with_reducible exact H | (rw [hy237]; exact H) | exact H
      have Ny237 := Aside0.mk hy237
      clear hy237
      by_cases c9 : y237.length + l1.length < 17592186044416
      rotate_left
      · rw [if_neg c9] at H
        exact absurd H (by simp)

      rw [if_pos c9] at H
      have LMc9 := Aside0.mk c9
      clear c9
      obtain ⟨y240, hy240⟩ : ∃ y_ : List Int, y_ = (y237 ++ l1) := ⟨_, rfl⟩
      replace H : ((fourier_Forward.f kj3 a0 l1).bind fun bt243 => ((fringeref11_Forward.f kj3 a0 l1).bind fun bt247 => ((fourier_Back.f kj3 a0 l1).bind fun bt251 => ((fringeref11_Back.f kj3 a0 l1).bind fun bt255 => ((fourier_Convolve.f kj3 a0 l1 l2).bind fun bt259 => ((fringeref11_Convolve.f kj3 a0 l1 l2).bind fun bt263 => ((fourier_Check.f kj3 a0 l1).bind fun t267 => ((fringeref11_Check.f kj3 a0 l1).bind fun t268 => (if t267 = t268 then ((fringeref10_Same.f kj3 bt243.1 bt247.1).bind fun t269 => (if t269 = true then (if bt243.2 = bt247.2 then ((fringeref10_Same.f kj3 bt251.1 bt255.1).bind fun t270 => (if t270 = true then (if bt251.2 = bt255.2 then ((fringeref10_Same.f kj3 bt259.1 bt263.1).bind fun t271 => (if t271 = true then (if bt259.2 = bt263.2 then ((fringeref10_Same.f kj3 l1 y240).bind fun t272 => (some t272)) else (some false)) else (some false))) else (some false)) else (some false))) else (some false)) else (some false))) else (some false)))))))))) = some r := by first | (rw [hy240]; with_reducible exact H) | (have H2_ := (Option.bind_some _ _).symm.trans H; rw [hy240]; with_reducible exact H2_) | (have H2_ := (Option.bind_some _ _).symm.trans H; with_reducible exact H2_) | with_reducible exact H | (rw [hy240]; exact H) | exact H
      have Ny240 := Aside0.mk hy240
      clear hy240
      replace H := Option.bind_eq_some_iff.mp H
      obtain ⟨⟨t243, t244⟩, A100, H⟩ := H
      replace H : ((fringeref11_Forward.f kj3 a0 l1).bind fun bt247 => ((fourier_Back.f kj3 a0 l1).bind fun bt251 => ((fringeref11_Back.f kj3 a0 l1).bind fun bt255 => ((fourier_Convolve.f kj3 a0 l1 l2).bind fun bt259 => ((fringeref11_Convolve.f kj3 a0 l1 l2).bind fun bt263 => ((fourier_Check.f kj3 a0 l1).bind fun t267 => ((fringeref11_Check.f kj3 a0 l1).bind fun t268 => (if t267 = t268 then ((fringeref10_Same.f kj3 t243 bt247.1).bind fun t269 => (if t269 = true then (if t244 = bt247.2 then ((fringeref10_Same.f kj3 bt251.1 bt255.1).bind fun t270 => (if t270 = true then (if bt251.2 = bt255.2 then ((fringeref10_Same.f kj3 bt259.1 bt263.1).bind fun t271 => (if t271 = true then (if bt259.2 = bt263.2 then ((fringeref10_Same.f kj3 l1 y240).bind fun t272 => (some t272)) else (some false)) else (some false))) else (some false)) else (some false))) else (some false)) else (some false))) else (some false))))))))) = some r := H
      have A10 := Aside0.mk A100
      clear A100
      replace H := Option.bind_eq_some_iff.mp H
      obtain ⟨⟨t247, t248⟩, A110, H⟩ := H
      replace H : ((fourier_Back.f kj3 a0 l1).bind fun bt251 => ((fringeref11_Back.f kj3 a0 l1).bind fun bt255 => ((fourier_Convolve.f kj3 a0 l1 l2).bind fun bt259 => ((fringeref11_Convolve.f kj3 a0 l1 l2).bind fun bt263 => ((fourier_Check.f kj3 a0 l1).bind fun t267 => ((fringeref11_Check.f kj3 a0 l1).bind fun t268 => (if t267 = t268 then ((fringeref10_Same.f kj3 t243 t247).bind fun t269 => (if t269 = true then (if t244 = t248 then ((fringeref10_Same.f kj3 bt251.1 bt255.1).bind fun t270 => (if t270 = true then (if bt251.2 = bt255.2 then ((fringeref10_Same.f kj3 bt259.1 bt263.1).bind fun t271 => (if t271 = true then (if bt259.2 = bt263.2 then ((fringeref10_Same.f kj3 l1 y240).bind fun t272 => (some t272)) else (some false)) else (some false))) else (some false)) else (some false))) else (some false)) else (some false))) else (some false)))))))) = some r := H
      have A11 := Aside0.mk A110
      clear A110
      replace H := Option.bind_eq_some_iff.mp H
      obtain ⟨⟨t251, t252⟩, A120, H⟩ := H
      replace H : ((fringeref11_Back.f kj3 a0 l1).bind fun bt255 => ((fourier_Convolve.f kj3 a0 l1 l2).bind fun bt259 => ((fringeref11_Convolve.f kj3 a0 l1 l2).bind fun bt263 => ((fourier_Check.f kj3 a0 l1).bind fun t267 => ((fringeref11_Check.f kj3 a0 l1).bind fun t268 => (if t267 = t268 then ((fringeref10_Same.f kj3 t243 t247).bind fun t269 => (if t269 = true then (if t244 = t248 then ((fringeref10_Same.f kj3 t251 bt255.1).bind fun t270 => (if t270 = true then (if t252 = bt255.2 then ((fringeref10_Same.f kj3 bt259.1 bt263.1).bind fun t271 => (if t271 = true then (if bt259.2 = bt263.2 then ((fringeref10_Same.f kj3 l1 y240).bind fun t272 => (some t272)) else (some false)) else (some false))) else (some false)) else (some false))) else (some false)) else (some false))) else (some false))))))) = some r := H
      have A12 := Aside0.mk A120
      clear A120
      replace H := Option.bind_eq_some_iff.mp H
      obtain ⟨⟨t255, t256⟩, A130, H⟩ := H
      replace H : ((fourier_Convolve.f kj3 a0 l1 l2).bind fun bt259 => ((fringeref11_Convolve.f kj3 a0 l1 l2).bind fun bt263 => ((fourier_Check.f kj3 a0 l1).bind fun t267 => ((fringeref11_Check.f kj3 a0 l1).bind fun t268 => (if t267 = t268 then ((fringeref10_Same.f kj3 t243 t247).bind fun t269 => (if t269 = true then (if t244 = t248 then ((fringeref10_Same.f kj3 t251 t255).bind fun t270 => (if t270 = true then (if t252 = t256 then ((fringeref10_Same.f kj3 bt259.1 bt263.1).bind fun t271 => (if t271 = true then (if bt259.2 = bt263.2 then ((fringeref10_Same.f kj3 l1 y240).bind fun t272 => (some t272)) else (some false)) else (some false))) else (some false)) else (some false))) else (some false)) else (some false))) else (some false)))))) = some r := H
      have A13 := Aside0.mk A130
      clear A130
      replace H := Option.bind_eq_some_iff.mp H
      obtain ⟨⟨t259, t260⟩, A140, H⟩ := H
      replace H : ((fringeref11_Convolve.f kj3 a0 l1 l2).bind fun bt263 => ((fourier_Check.f kj3 a0 l1).bind fun t267 => ((fringeref11_Check.f kj3 a0 l1).bind fun t268 => (if t267 = t268 then ((fringeref10_Same.f kj3 t243 t247).bind fun t269 => (if t269 = true then (if t244 = t248 then ((fringeref10_Same.f kj3 t251 t255).bind fun t270 => (if t270 = true then (if t252 = t256 then ((fringeref10_Same.f kj3 t259 bt263.1).bind fun t271 => (if t271 = true then (if t260 = bt263.2 then ((fringeref10_Same.f kj3 l1 y240).bind fun t272 => (some t272)) else (some false)) else (some false))) else (some false)) else (some false))) else (some false)) else (some false))) else (some false))))) = some r := H
      have A14 := Aside0.mk A140
      clear A140
      replace H := Option.bind_eq_some_iff.mp H
      obtain ⟨⟨t263, t264⟩, A150, H⟩ := H
      replace H : ((fourier_Check.f kj3 a0 l1).bind fun t267 => ((fringeref11_Check.f kj3 a0 l1).bind fun t268 => (if t267 = t268 then ((fringeref10_Same.f kj3 t243 t247).bind fun t269 => (if t269 = true then (if t244 = t248 then ((fringeref10_Same.f kj3 t251 t255).bind fun t270 => (if t270 = true then (if t252 = t256 then ((fringeref10_Same.f kj3 t259 t263).bind fun t271 => (if t271 = true then (if t260 = t264 then ((fringeref10_Same.f kj3 l1 y240).bind fun t272 => (some t272)) else (some false)) else (some false))) else (some false)) else (some false))) else (some false)) else (some false))) else (some false)))) = some r := H
      have A15 := Aside0.mk A150
      clear A150
      replace H := Option.bind_eq_some_iff.mp H
      obtain ⟨t267, A160, H⟩ := H
      replace H : ((fringeref11_Check.f kj3 a0 l1).bind fun t268 => (if t267 = t268 then ((fringeref10_Same.f kj3 t243 t247).bind fun t269 => (if t269 = true then (if t244 = t248 then ((fringeref10_Same.f kj3 t251 t255).bind fun t270 => (if t270 = true then (if t252 = t256 then ((fringeref10_Same.f kj3 t259 t263).bind fun t271 => (if t271 = true then (if t260 = t264 then ((fringeref10_Same.f kj3 l1 y240).bind fun t272 => (some t272)) else (some false)) else (some false))) else (some false)) else (some false))) else (some false)) else (some false))) else (some false))) = some r := H
      have A16 := Aside0.mk A160
      clear A160
      replace H := Option.bind_eq_some_iff.mp H
      obtain ⟨t268, A170, H⟩ := H
      replace H : (if t267 = t268 then ((fringeref10_Same.f kj3 t243 t247).bind fun t269 => (if t269 = true then (if t244 = t248 then ((fringeref10_Same.f kj3 t251 t255).bind fun t270 => (if t270 = true then (if t252 = t256 then ((fringeref10_Same.f kj3 t259 t263).bind fun t271 => (if t271 = true then (if t260 = t264 then ((fringeref10_Same.f kj3 l1 y240).bind fun t272 => (some t272)) else (some false)) else (some false))) else (some false)) else (some false))) else (some false)) else (some false))) else (some false)) = some r := H
      have A17 := Aside0.mk A170
      clear A170
      by_cases c18 : t267 = t268
      rotate_left
      · rw [if_neg c18] at H
        have c18b0 : (t267 == t268) = false := beq_eq_false_iff_ne.mpr c18
        have c18b1 : (t267 != t268) = true := bne_iff_ne.mpr c18
        exact absurd ((Option.some.inj H).trans HRT.out) (by decide)
      rw [if_pos c18] at H
      have c18b0 : (t267 == t268) = true := beq_iff_eq.mpr c18
      have c18b1 : (t267 != t268) = false := bne_eq_false_iff_eq.mpr c18
      clear c18
      replace H := Option.bind_eq_some_iff.mp H
      obtain ⟨t269, A190, H⟩ := H
      replace H : (if t269 = true then (if t244 = t248 then ((fringeref10_Same.f kj3 t251 t255).bind fun t270 => (if t270 = true then (if t252 = t256 then ((fringeref10_Same.f kj3 t259 t263).bind fun t271 => (if t271 = true then (if t260 = t264 then ((fringeref10_Same.f kj3 l1 y240).bind fun t272 => (some t272)) else (some false)) else (some false))) else (some false)) else (some false))) else (some false)) else (some false)) = some r := H
      have A19 := Aside0.mk A190
      clear A190
      by_cases c20 : t269 = true
      rotate_left
      · replace c20 := Bool.eq_false_iff.mpr c20
        subst c20
        have H1 : (some false) = some r := by rw [if_neg (show ¬ (false = true) by decide)] at H; exact H
        clear H
        have H := H1
        clear H1
        exact absurd ((Option.some.inj H).trans HRT.out) (by decide)
      subst c20
      have H1 : (if t244 = t248 then ((fringeref10_Same.f kj3 t251 t255).bind fun t270 => (if t270 = true then (if t252 = t256 then ((fringeref10_Same.f kj3 t259 t263).bind fun t271 => (if t271 = true then (if t260 = t264 then ((fringeref10_Same.f kj3 l1 y240).bind fun t272 => (some t272)) else (some false)) else (some false))) else (some false)) else (some false))) else (some false)) = some r := by rw [if_pos rfl] at H; exact H
      clear H
      have H := H1
      clear H1
      by_cases c21 : t244 = t248
      rotate_left
      · rw [if_neg c21] at H
        have c21b0 : (t244 == t248) = false := beq_eq_false_iff_ne.mpr c21
        have c21b1 : (t244 != t248) = true := bne_iff_ne.mpr c21
        exact absurd ((Option.some.inj H).trans HRT.out) (by decide)
      rw [if_pos c21] at H
      have c21b0 : (t244 == t248) = true := beq_iff_eq.mpr c21
      have c21b1 : (t244 != t248) = false := bne_eq_false_iff_eq.mpr c21
      clear c21
      replace H := Option.bind_eq_some_iff.mp H
      obtain ⟨t270, A220, H⟩ := H
      replace H : (if t270 = true then (if t252 = t256 then ((fringeref10_Same.f kj3 t259 t263).bind fun t271 => (if t271 = true then (if t260 = t264 then ((fringeref10_Same.f kj3 l1 y240).bind fun t272 => (some t272)) else (some false)) else (some false))) else (some false)) else (some false)) = some r := H
      have A22 := Aside0.mk A220
      clear A220
      by_cases c23 : t270 = true
      rotate_left
      · replace c23 := Bool.eq_false_iff.mpr c23
        subst c23
        have H1 : (some false) = some r := by rw [if_neg (show ¬ (false = true) by decide)] at H; exact H
        clear H
        have H := H1
        clear H1
        exact absurd ((Option.some.inj H).trans HRT.out) (by decide)
      subst c23
      have H1 : (if t252 = t256 then ((fringeref10_Same.f kj3 t259 t263).bind fun t271 => (if t271 = true then (if t260 = t264 then ((fringeref10_Same.f kj3 l1 y240).bind fun t272 => (some t272)) else (some false)) else (some false))) else (some false)) = some r := by rw [if_pos rfl] at H; exact H
      clear H
      have H := H1
      clear H1
      by_cases c24 : t252 = t256
      rotate_left
      · rw [if_neg c24] at H
        have c24b0 : (t252 == t256) = false := beq_eq_false_iff_ne.mpr c24
        have c24b1 : (t252 != t256) = true := bne_iff_ne.mpr c24
        exact absurd ((Option.some.inj H).trans HRT.out) (by decide)
      rw [if_pos c24] at H
      have c24b0 : (t252 == t256) = true := beq_iff_eq.mpr c24
      have c24b1 : (t252 != t256) = false := bne_eq_false_iff_eq.mpr c24
      clear c24
      replace H := Option.bind_eq_some_iff.mp H
      obtain ⟨t271, A250, H⟩ := H
      replace H : (if t271 = true then (if t260 = t264 then ((fringeref10_Same.f kj3 l1 y240).bind fun t272 => (some t272)) else (some false)) else (some false)) = some r := H
      have A25 := Aside0.mk A250
      clear A250
      by_cases c26 : t271 = true
      rotate_left
      · replace c26 := Bool.eq_false_iff.mpr c26
        subst c26
        have H1 : (some false) = some r := by rw [if_neg (show ¬ (false = true) by decide)] at H; exact H
        clear H
        have H := H1
        clear H1
        exact absurd ((Option.some.inj H).trans HRT.out) (by decide)
      subst c26
      have H1 : (if t260 = t264 then ((fringeref10_Same.f kj3 l1 y240).bind fun t272 => (some t272)) else (some false)) = some r := by rw [if_pos rfl] at H; exact H
      clear H
      have H := H1
      clear H1
      by_cases c27 : t260 = t264
      rotate_left
      · rw [if_neg c27] at H
        have c27b0 : (t260 == t264) = false := beq_eq_false_iff_ne.mpr c27
        have c27b1 : (t260 != t264) = true := bne_iff_ne.mpr c27
        exact absurd ((Option.some.inj H).trans HRT.out) (by decide)
      rw [if_pos c27] at H
      have c27b0 : (t260 == t264) = true := beq_iff_eq.mpr c27
      have c27b1 : (t260 != t264) = false := bne_eq_false_iff_eq.mpr c27
      clear c27
      replace H := Option.bind_eq_some_iff.mp H
      obtain ⟨t272, A280, H⟩ := H
      replace H : (some t272) = some r := H
      have A28 := Aside0.mk A280
      clear A280
      obtain rfl := Option.some.inj H
      go_wp2_with (first | ((with_reducible refine gate_dst (N := 26) rfl ?_); refine Kd.R_lit (Kd.int .i64) _ 2 ?hg (N := 26) ?hd (xs := ([] : List Int)) (inner := []) (ok := fun _ => True) (okp := fun _ => True) ?hr ?hp (fun _ hk => hk) trivial (Below.refl _ _) (Nat.le_refl _) (by simp) ?_; (case hd => rfl); (case hg => rfl); (case hr => first | (go_simp; done) | (go_simp; rfl)); (case hp => exact (Reps.none _ _)); intro v238 w29 ho30 hb hg_ hnew_; clear hg_ hnew_; (first | rw [← Ny237.out] at ho30 | (simp only [Int.reduceToNat] at ho30; rw [← Ny237.out] at ho30)); have n0_ := Aside0.mk (Kd.R_lower ho30 (below_size (by repeat (first | (with_reducible first | exact HB.out | apply below_alloc | apply pw_below_drewN | apply below_drew1) | exact HB.out)))); have n1_ := Aside0.mk (below_step (by repeat (first | (with_reducible first | exact HB.out | apply below_alloc | apply pw_below_drewN | apply below_drew1) | exact HB.out)) hb); clear HB; have HO239 := n0_; have HB := n1_; clear n0_ n1_; clear hb ho30) | ((with_reducible refine gate_builtin (b := .append) (xs := #[.tmp 26, .tmp 27]) rfl ?_); at_builtin; refine Kd.R_append_rows (Kd.int .i64) (w0 := w) w.heap.size rfl (.tmp 26) (.tmp 27) 22 2 (.int .i64 0) 8 rfl Try.underlying22 info2 rfl (by decide) (by omega) v238 y237 l1 _ _ _ (fun _ => True) (fun _ => False) rfl rfl ?aO ?aR (fun _ _ h => h) (fun _ h => h.elim) ?aF ?aB ?aS ?aL ?_; (case aR => repeat (first | exact (Kd.C_below HR1.out HB.out) | (with_reducible refine Kd.C_alloc ?_ _) | (with_reducible refine Kd.C_drewN ?_ _) | (with_reducible refine Kd.C_drew ?_))); (case aB => exact (by repeat (first | (with_reducible first | exact HB.out | apply below_alloc | apply pw_below_drewN | apply below_drew1) | exact HB.out))); (case aF => exact (fun _ _ => trivial)); (case aO => exact (by (with_reducible repeat (first | apply Kd.R_alloc | apply Kd.R_drewN | apply Kd.R_drew)); exact HO239.out)); (case aS => exact (below_size (by repeat (first | (with_reducible first | exact HB.out | apply below_alloc | apply pw_below_drewN | apply below_drew1) | exact HB.out)))); (case aL => have := LMc9.out; omega); intro v241 w31 ho hb hg hat; rw [← Ny240.out] at ho; have n0_ := Aside0.mk (hb); have n1_ := Aside0.mk (ho); clear HB; clear HO239; have HB := n0_; have HO242 := n1_; clear n0_ n1_; clear ho hb hg hat) | ((with_reducible refine gate_callee (f := 11) rfl ?_); refine goesL_ (some 32) rfl rfl Try.func11 (by kernel_rfl) rfl #[.int .i64 a0, .slice A1 l1.length c1] rfl (by (try simp only [List.map_toArray, List.map_cons, List.map_nil]); first | done | rfl | (simp only [List.length_drop, List.length_take]; rfl)) ?_; (with_reducible refine (fourier_Forward.calls kj3 a0 _ _ l1 t243 t244 _ ?side1 ?side2 A10.out).mono ?_); (case side1 => repeat (first | exact (Kd.C_below HR1.out HB.out) | (with_reducible refine Kd.C_alloc ?_ _) | (with_reducible refine Kd.C_drewN ?_ _) | (with_reducible refine Kd.C_drew ?_))); (case side2 => exact HC1.out); rintro e w32 ⟨v245, rfl, ho0, hb⟩; refine ⟨_, rfl, ?_⟩; have n0_ := Aside0.mk (Kd.R_elder' (by (with_reducible repeat (first | apply Kd.R_alloc | apply Kd.R_drewN | apply Kd.R_drew)); exact HO242.out) (Kd.R_base ho0) hb); have n1_ := Aside0.mk (Kd.R_lower (Kd.R_new' ho0 (Kd.R_lt (by (with_reducible repeat (first | apply Kd.R_alloc | apply Kd.R_drewN | apply Kd.R_drew)); exact HO242.out))) (below_size (by repeat (first | (with_reducible first | exact HB.out | apply below_alloc | apply pw_below_drewN | apply below_drew1) | exact HB.out)))); have n2_ := Aside0.mk (below_step (by repeat (first | (with_reducible first | exact HB.out | apply below_alloc | apply pw_below_drewN | apply below_drew1) | exact HB.out)) hb); clear HO242; clear HB; have HO242 := n0_; have HO246 := n1_; have HB := n2_; clear n0_ n1_ n2_; (try clear hb); (try clear hb2); (try clear hk); (try clear hi); (try clear ho0)) | ((with_reducible refine gate_callee (f := 12) rfl ?_); refine goesL_ (some 38) rfl rfl Try.func12 (by kernel_rfl) rfl #[.int .i64 a0, .slice A1 l1.length c1] rfl (by (try simp only [List.map_toArray, List.map_cons, List.map_nil]); first | done | rfl | (simp only [List.length_drop, List.length_take]; rfl)) ?_; (with_reducible refine (fringeref11_Forward.calls kj3 a0 _ _ l1 t247 t248 _ ?side1 ?side2 A11.out).mono ?_); (case side1 => repeat (first | exact (Kd.C_below HR1.out HB.out) | (with_reducible refine Kd.C_alloc ?_ _) | (with_reducible refine Kd.C_drewN ?_ _) | (with_reducible refine Kd.C_drew ?_))); (case side2 => exact HC1.out); rintro e w33 ⟨v249, rfl, ho0, hb⟩; refine ⟨_, rfl, ?_⟩; have n0_ := Aside0.mk (Kd.R_elder' (by (with_reducible repeat (first | apply Kd.R_alloc | apply Kd.R_drewN | apply Kd.R_drew)); exact HO242.out) (Kd.R_base ho0) hb); have n1_ := Aside0.mk (Kd.R_elder' (by (with_reducible repeat (first | apply Kd.R_alloc | apply Kd.R_drewN | apply Kd.R_drew)); exact HO246.out) (Kd.R_base ho0) hb); have n2_ := Aside0.mk (Kd.R_lower (Kd.R_new' (Kd.R_new' ho0 (Kd.R_lt (by (with_reducible repeat (first | apply Kd.R_alloc | apply Kd.R_drewN | apply Kd.R_drew)); exact HO242.out))) (Kd.R_lt (by (with_reducible repeat (first | apply Kd.R_alloc | apply Kd.R_drewN | apply Kd.R_drew)); exact HO246.out))) (below_size (by repeat (first | (with_reducible first | exact HB.out | apply below_alloc | apply pw_below_drewN | apply below_drew1) | exact HB.out)))); have n3_ := Aside0.mk (below_step (by repeat (first | (with_reducible first | exact HB.out | apply below_alloc | apply pw_below_drewN | apply below_drew1) | exact HB.out)) hb); clear HO242; clear HO246; clear HB; have HO242 := n0_; have HO246 := n1_; have HO250 := n2_; have HB := n3_; clear n0_ n1_ n2_ n3_; (try clear hb); (try clear hb2); (try clear hk); (try clear hi); (try clear ho0)) | ((with_reducible refine gate_callee (f := 13) rfl ?_); refine goesL_ (some 44) rfl rfl Try.func13 (by kernel_rfl) rfl #[.int .i64 a0, .slice A1 l1.length c1] rfl (by (try simp only [List.map_toArray, List.map_cons, List.map_nil]); first | done | rfl | (simp only [List.length_drop, List.length_take]; rfl)) ?_; (with_reducible refine (fourier_Back.calls kj3 a0 _ _ l1 t251 t252 _ ?side1 ?side2 A12.out).mono ?_); (case side1 => repeat (first | exact (Kd.C_below HR1.out HB.out) | (with_reducible refine Kd.C_alloc ?_ _) | (with_reducible refine Kd.C_drewN ?_ _) | (with_reducible refine Kd.C_drew ?_))); (case side2 => exact HC1.out); rintro e w34 ⟨v253, rfl, ho0, hb⟩; refine ⟨_, rfl, ?_⟩; have n0_ := Aside0.mk (Kd.R_elder' (by (with_reducible repeat (first | apply Kd.R_alloc | apply Kd.R_drewN | apply Kd.R_drew)); exact HO242.out) (Kd.R_base ho0) hb); have n1_ := Aside0.mk (Kd.R_elder' (by (with_reducible repeat (first | apply Kd.R_alloc | apply Kd.R_drewN | apply Kd.R_drew)); exact HO246.out) (Kd.R_base ho0) hb); have n2_ := Aside0.mk (Kd.R_elder' (by (with_reducible repeat (first | apply Kd.R_alloc | apply Kd.R_drewN | apply Kd.R_drew)); exact HO250.out) (Kd.R_base ho0) hb); have n3_ := Aside0.mk (Kd.R_lower (Kd.R_new' (Kd.R_new' (Kd.R_new' ho0 (Kd.R_lt (by (with_reducible repeat (first | apply Kd.R_alloc | apply Kd.R_drewN | apply Kd.R_drew)); exact HO242.out))) (Kd.R_lt (by (with_reducible repeat (first | apply Kd.R_alloc | apply Kd.R_drewN | apply Kd.R_drew)); exact HO246.out))) (Kd.R_lt (by (with_reducible repeat (first | apply Kd.R_alloc | apply Kd.R_drewN | apply Kd.R_drew)); exact HO250.out))) (below_size (by repeat (first | (with_reducible first | exact HB.out | apply below_alloc | apply pw_below_drewN | apply below_drew1) | exact HB.out)))); have n4_ := Aside0.mk (below_step (by repeat (first | (with_reducible first | exact HB.out | apply below_alloc | apply pw_below_drewN | apply below_drew1) | exact HB.out)) hb); clear HO242; clear HO246; clear HO250; clear HB; have HO242 := n0_; have HO246 := n1_; have HO250 := n2_; have HO254 := n3_; have HB := n4_; clear n0_ n1_ n2_ n3_ n4_; (try clear hb); (try clear hb2); (try clear hk); (try clear hi); (try clear ho0)) | ((with_reducible refine gate_callee (f := 14) rfl ?_); refine goesL_ (some 50) rfl rfl Try.func14 (by kernel_rfl) rfl #[.int .i64 a0, .slice A1 l1.length c1] rfl (by (try simp only [List.map_toArray, List.map_cons, List.map_nil]); first | done | rfl | (simp only [List.length_drop, List.length_take]; rfl)) ?_; (with_reducible refine (fringeref11_Back.calls kj3 a0 _ _ l1 t255 t256 _ ?side1 ?side2 A13.out).mono ?_); (case side1 => repeat (first | exact (Kd.C_below HR1.out HB.out) | (with_reducible refine Kd.C_alloc ?_ _) | (with_reducible refine Kd.C_drewN ?_ _) | (with_reducible refine Kd.C_drew ?_))); (case side2 => exact HC1.out); rintro e w35 ⟨v257, rfl, ho0, hb⟩; refine ⟨_, rfl, ?_⟩; have n0_ := Aside0.mk (Kd.R_elder' (by (with_reducible repeat (first | apply Kd.R_alloc | apply Kd.R_drewN | apply Kd.R_drew)); exact HO242.out) (Kd.R_base ho0) hb); have n1_ := Aside0.mk (Kd.R_elder' (by (with_reducible repeat (first | apply Kd.R_alloc | apply Kd.R_drewN | apply Kd.R_drew)); exact HO246.out) (Kd.R_base ho0) hb); have n2_ := Aside0.mk (Kd.R_elder' (by (with_reducible repeat (first | apply Kd.R_alloc | apply Kd.R_drewN | apply Kd.R_drew)); exact HO250.out) (Kd.R_base ho0) hb); have n3_ := Aside0.mk (Kd.R_elder' (by (with_reducible repeat (first | apply Kd.R_alloc | apply Kd.R_drewN | apply Kd.R_drew)); exact HO254.out) (Kd.R_base ho0) hb); have n4_ := Aside0.mk (Kd.R_lower (Kd.R_new' (Kd.R_new' (Kd.R_new' (Kd.R_new' ho0 (Kd.R_lt (by (with_reducible repeat (first | apply Kd.R_alloc | apply Kd.R_drewN | apply Kd.R_drew)); exact HO242.out))) (Kd.R_lt (by (with_reducible repeat (first | apply Kd.R_alloc | apply Kd.R_drewN | apply Kd.R_drew)); exact HO246.out))) (Kd.R_lt (by (with_reducible repeat (first | apply Kd.R_alloc | apply Kd.R_drewN | apply Kd.R_drew)); exact HO250.out))) (Kd.R_lt (by (with_reducible repeat (first | apply Kd.R_alloc | apply Kd.R_drewN | apply Kd.R_drew)); exact HO254.out))) (below_size (by repeat (first | (with_reducible first | exact HB.out | apply below_alloc | apply pw_below_drewN | apply below_drew1) | exact HB.out)))); have n5_ := Aside0.mk (below_step (by repeat (first | (with_reducible first | exact HB.out | apply below_alloc | apply pw_below_drewN | apply below_drew1) | exact HB.out)) hb); clear HO242; clear HO246; clear HO250; clear HO254; clear HB; have HO242 := n0_; have HO246 := n1_; have HO250 := n2_; have HO254 := n3_; have HO258 := n4_; have HB := n5_; clear n0_ n1_ n2_ n3_ n4_ n5_; (try clear hb); (try clear hb2); (try clear hk); (try clear hi); (try clear ho0)) | ((with_reducible refine gate_callee (f := 15) rfl ?_); refine goesL_ (some 57) rfl rfl Try.func15 (by kernel_rfl) rfl #[.int .i64 a0, .slice A1 l1.length c1, .slice A2 l2.length c2] rfl (by (try simp only [List.map_toArray, List.map_cons, List.map_nil]); first | done | rfl | (simp only [List.length_drop, List.length_take]; rfl)) ?_; (with_reducible refine (fourier_Convolve.calls kj3 a0 _ _ l1 _ _ l2 t259 t260 _ ?side1 ?side2 ?side3 ?side4 A14.out).mono ?_); (case side1 => repeat (first | exact (Kd.C_below HR1.out HB.out) | (with_reducible refine Kd.C_alloc ?_ _) | (with_reducible refine Kd.C_drewN ?_ _) | (with_reducible refine Kd.C_drew ?_))); (case side2 => exact HC1.out); (case side3 => repeat (first | exact (Kd.C_below HR2.out HB.out) | (with_reducible refine Kd.C_alloc ?_ _) | (with_reducible refine Kd.C_drewN ?_ _) | (with_reducible refine Kd.C_drew ?_))); (case side4 => exact HC2.out); rintro e w36 ⟨v261, rfl, ho0, hb⟩; refine ⟨_, rfl, ?_⟩; have n0_ := Aside0.mk (Kd.R_elder' (by (with_reducible repeat (first | apply Kd.R_alloc | apply Kd.R_drewN | apply Kd.R_drew)); exact HO242.out) (Kd.R_base ho0) hb); have n1_ := Aside0.mk (Kd.R_elder' (by (with_reducible repeat (first | apply Kd.R_alloc | apply Kd.R_drewN | apply Kd.R_drew)); exact HO246.out) (Kd.R_base ho0) hb); have n2_ := Aside0.mk (Kd.R_elder' (by (with_reducible repeat (first | apply Kd.R_alloc | apply Kd.R_drewN | apply Kd.R_drew)); exact HO250.out) (Kd.R_base ho0) hb); have n3_ := Aside0.mk (Kd.R_elder' (by (with_reducible repeat (first | apply Kd.R_alloc | apply Kd.R_drewN | apply Kd.R_drew)); exact HO254.out) (Kd.R_base ho0) hb); have n4_ := Aside0.mk (Kd.R_elder' (by (with_reducible repeat (first | apply Kd.R_alloc | apply Kd.R_drewN | apply Kd.R_drew)); exact HO258.out) (Kd.R_base ho0) hb); have n5_ := Aside0.mk (Kd.R_lower (Kd.R_new' (Kd.R_new' (Kd.R_new' (Kd.R_new' (Kd.R_new' ho0 (Kd.R_lt (by (with_reducible repeat (first | apply Kd.R_alloc | apply Kd.R_drewN | apply Kd.R_drew)); exact HO242.out))) (Kd.R_lt (by (with_reducible repeat (first | apply Kd.R_alloc | apply Kd.R_drewN | apply Kd.R_drew)); exact HO246.out))) (Kd.R_lt (by (with_reducible repeat (first | apply Kd.R_alloc | apply Kd.R_drewN | apply Kd.R_drew)); exact HO250.out))) (Kd.R_lt (by (with_reducible repeat (first | apply Kd.R_alloc | apply Kd.R_drewN | apply Kd.R_drew)); exact HO254.out))) (Kd.R_lt (by (with_reducible repeat (first | apply Kd.R_alloc | apply Kd.R_drewN | apply Kd.R_drew)); exact HO258.out))) (below_size (by repeat (first | (with_reducible first | exact HB.out | apply below_alloc | apply pw_below_drewN | apply below_drew1) | exact HB.out)))); have n6_ := Aside0.mk (below_step (by repeat (first | (with_reducible first | exact HB.out | apply below_alloc | apply pw_below_drewN | apply below_drew1) | exact HB.out)) hb); clear HO242; clear HO246; clear HO250; clear HO254; clear HO258; clear HB; have HO242 := n0_; have HO246 := n1_; have HO250 := n2_; have HO254 := n3_; have HO258 := n4_; have HO262 := n5_; have HB := n6_; clear n0_ n1_ n2_ n3_ n4_ n5_ n6_; (try clear hb); (try clear hb2); (try clear hk); (try clear hi); (try clear ho0)) | ((with_reducible refine gate_callee (f := 16) rfl ?_); refine goesL_ (some 64) rfl rfl Try.func16 (by kernel_rfl) rfl #[.int .i64 a0, .slice A1 l1.length c1, .slice A2 l2.length c2] rfl (by (try simp only [List.map_toArray, List.map_cons, List.map_nil]); first | done | rfl | (simp only [List.length_drop, List.length_take]; rfl)) ?_; (with_reducible refine (fringeref11_Convolve.calls kj3 a0 _ _ l1 _ _ l2 t263 t264 _ ?side1 ?side2 ?side3 ?side4 A15.out).mono ?_); (case side1 => repeat (first | exact (Kd.C_below HR1.out HB.out) | (with_reducible refine Kd.C_alloc ?_ _) | (with_reducible refine Kd.C_drewN ?_ _) | (with_reducible refine Kd.C_drew ?_))); (case side2 => exact HC1.out); (case side3 => repeat (first | exact (Kd.C_below HR2.out HB.out) | (with_reducible refine Kd.C_alloc ?_ _) | (with_reducible refine Kd.C_drewN ?_ _) | (with_reducible refine Kd.C_drew ?_))); (case side4 => exact HC2.out); rintro e w37 ⟨v265, rfl, ho0, hb⟩; refine ⟨_, rfl, ?_⟩; have n0_ := Aside0.mk (Kd.R_elder' (by (with_reducible repeat (first | apply Kd.R_alloc | apply Kd.R_drewN | apply Kd.R_drew)); exact HO242.out) (Kd.R_base ho0) hb); have n1_ := Aside0.mk (Kd.R_elder' (by (with_reducible repeat (first | apply Kd.R_alloc | apply Kd.R_drewN | apply Kd.R_drew)); exact HO246.out) (Kd.R_base ho0) hb); have n2_ := Aside0.mk (Kd.R_elder' (by (with_reducible repeat (first | apply Kd.R_alloc | apply Kd.R_drewN | apply Kd.R_drew)); exact HO250.out) (Kd.R_base ho0) hb); have n3_ := Aside0.mk (Kd.R_elder' (by (with_reducible repeat (first | apply Kd.R_alloc | apply Kd.R_drewN | apply Kd.R_drew)); exact HO254.out) (Kd.R_base ho0) hb); have n4_ := Aside0.mk (Kd.R_elder' (by (with_reducible repeat (first | apply Kd.R_alloc | apply Kd.R_drewN | apply Kd.R_drew)); exact HO258.out) (Kd.R_base ho0) hb); have n5_ := Aside0.mk (Kd.R_elder' (by (with_reducible repeat (first | apply Kd.R_alloc | apply Kd.R_drewN | apply Kd.R_drew)); exact HO262.out) (Kd.R_base ho0) hb); have n6_ := Aside0.mk (Kd.R_lower (Kd.R_new' (Kd.R_new' (Kd.R_new' (Kd.R_new' (Kd.R_new' (Kd.R_new' ho0 (Kd.R_lt (by (with_reducible repeat (first | apply Kd.R_alloc | apply Kd.R_drewN | apply Kd.R_drew)); exact HO242.out))) (Kd.R_lt (by (with_reducible repeat (first | apply Kd.R_alloc | apply Kd.R_drewN | apply Kd.R_drew)); exact HO246.out))) (Kd.R_lt (by (with_reducible repeat (first | apply Kd.R_alloc | apply Kd.R_drewN | apply Kd.R_drew)); exact HO250.out))) (Kd.R_lt (by (with_reducible repeat (first | apply Kd.R_alloc | apply Kd.R_drewN | apply Kd.R_drew)); exact HO254.out))) (Kd.R_lt (by (with_reducible repeat (first | apply Kd.R_alloc | apply Kd.R_drewN | apply Kd.R_drew)); exact HO258.out))) (Kd.R_lt (by (with_reducible repeat (first | apply Kd.R_alloc | apply Kd.R_drewN | apply Kd.R_drew)); exact HO262.out))) (below_size (by repeat (first | (with_reducible first | exact HB.out | apply below_alloc | apply pw_below_drewN | apply below_drew1) | exact HB.out)))); have n7_ := Aside0.mk (below_step (by repeat (first | (with_reducible first | exact HB.out | apply below_alloc | apply pw_below_drewN | apply below_drew1) | exact HB.out)) hb); clear HO242; clear HO246; clear HO250; clear HO254; clear HO258; clear HO262; clear HB; have HO242 := n0_; have HO246 := n1_; have HO250 := n2_; have HO254 := n3_; have HO258 := n4_; have HO262 := n5_; have HO266 := n6_; have HB := n7_; clear n0_ n1_ n2_ n3_ n4_ n5_ n6_ n7_; (try clear hb); (try clear hb2); (try clear hk); (try clear hi); (try clear ho0)) | ((with_reducible refine gate_callee (f := 17) rfl ?_); refine goesL_ (some 69) rfl rfl Try.func17 (by kernel_rfl) rfl #[.int .i64 a0, .slice A1 l1.length c1] rfl (by (try simp only [List.map_toArray, List.map_cons, List.map_nil]); first | done | rfl | (simp only [List.length_drop, List.length_take]; rfl)) ?_; (with_reducible refine (fourier_Check.calls kj3 a0 _ _ l1 t267 _ ?side1 ?side2 A16.out).mono ?_); (case side1 => repeat (first | exact (Kd.C_below HR1.out HB.out) | (with_reducible refine Kd.C_alloc ?_ _) | (with_reducible refine Kd.C_drewN ?_ _) | (with_reducible refine Kd.C_drew ?_))); (case side2 => exact HC1.out); rintro e w38 ⟨rfl, hb⟩; refine ⟨_, rfl, ?_⟩; have n0_ := Aside0.mk (Kd.R_below (by (with_reducible repeat (first | apply Kd.R_alloc | apply Kd.R_drewN | apply Kd.R_drew)); exact HO242.out) hb); have n1_ := Aside0.mk (Kd.R_below (by (with_reducible repeat (first | apply Kd.R_alloc | apply Kd.R_drewN | apply Kd.R_drew)); exact HO246.out) hb); have n2_ := Aside0.mk (Kd.R_below (by (with_reducible repeat (first | apply Kd.R_alloc | apply Kd.R_drewN | apply Kd.R_drew)); exact HO250.out) hb); have n3_ := Aside0.mk (Kd.R_below (by (with_reducible repeat (first | apply Kd.R_alloc | apply Kd.R_drewN | apply Kd.R_drew)); exact HO254.out) hb); have n4_ := Aside0.mk (Kd.R_below (by (with_reducible repeat (first | apply Kd.R_alloc | apply Kd.R_drewN | apply Kd.R_drew)); exact HO258.out) hb); have n5_ := Aside0.mk (Kd.R_below (by (with_reducible repeat (first | apply Kd.R_alloc | apply Kd.R_drewN | apply Kd.R_drew)); exact HO262.out) hb); have n6_ := Aside0.mk (Kd.R_below (by (with_reducible repeat (first | apply Kd.R_alloc | apply Kd.R_drewN | apply Kd.R_drew)); exact HO266.out) hb); have n7_ := Aside0.mk (below_step (by repeat (first | (with_reducible first | exact HB.out | apply below_alloc | apply pw_below_drewN | apply below_drew1) | exact HB.out)) hb); clear HO242; clear HO246; clear HO250; clear HO254; clear HO258; clear HO262; clear HO266; clear HB; have HO242 := n0_; have HO246 := n1_; have HO250 := n2_; have HO254 := n3_; have HO258 := n4_; have HO262 := n5_; have HO266 := n6_; have HB := n7_; clear n0_ n1_ n2_ n3_ n4_ n5_ n6_ n7_; (try clear hb); (try clear hb2); (try clear hk); (try clear hi)) | ((with_reducible refine gate_callee (f := 18) rfl ?_); refine goesL_ (some 72) rfl rfl Try.func18 (by kernel_rfl) rfl #[.int .i64 a0, .slice A1 l1.length c1] rfl (by (try simp only [List.map_toArray, List.map_cons, List.map_nil]); first | done | rfl | (simp only [List.length_drop, List.length_take]; rfl)) ?_; (with_reducible refine (fringeref11_Check.calls kj3 a0 _ _ l1 t268 _ ?side1 ?side2 A17.out).mono ?_); (case side1 => repeat (first | exact (Kd.C_below HR1.out HB.out) | (with_reducible refine Kd.C_alloc ?_ _) | (with_reducible refine Kd.C_drewN ?_ _) | (with_reducible refine Kd.C_drew ?_))); (case side2 => exact HC1.out); rintro e w39 ⟨rfl, hb⟩; refine ⟨_, rfl, ?_⟩; have n0_ := Aside0.mk (Kd.R_below (by (with_reducible repeat (first | apply Kd.R_alloc | apply Kd.R_drewN | apply Kd.R_drew)); exact HO242.out) hb); have n1_ := Aside0.mk (Kd.R_below (by (with_reducible repeat (first | apply Kd.R_alloc | apply Kd.R_drewN | apply Kd.R_drew)); exact HO246.out) hb); have n2_ := Aside0.mk (Kd.R_below (by (with_reducible repeat (first | apply Kd.R_alloc | apply Kd.R_drewN | apply Kd.R_drew)); exact HO250.out) hb); have n3_ := Aside0.mk (Kd.R_below (by (with_reducible repeat (first | apply Kd.R_alloc | apply Kd.R_drewN | apply Kd.R_drew)); exact HO254.out) hb); have n4_ := Aside0.mk (Kd.R_below (by (with_reducible repeat (first | apply Kd.R_alloc | apply Kd.R_drewN | apply Kd.R_drew)); exact HO258.out) hb); have n5_ := Aside0.mk (Kd.R_below (by (with_reducible repeat (first | apply Kd.R_alloc | apply Kd.R_drewN | apply Kd.R_drew)); exact HO262.out) hb); have n6_ := Aside0.mk (Kd.R_below (by (with_reducible repeat (first | apply Kd.R_alloc | apply Kd.R_drewN | apply Kd.R_drew)); exact HO266.out) hb); have n7_ := Aside0.mk (below_step (by repeat (first | (with_reducible first | exact HB.out | apply below_alloc | apply pw_below_drewN | apply below_drew1) | exact HB.out)) hb); clear HO242; clear HO246; clear HO250; clear HO254; clear HO258; clear HO262; clear HO266; clear HB; have HO242 := n0_; have HO246 := n1_; have HO250 := n2_; have HO254 := n3_; have HO258 := n4_; have HO262 := n5_; have HO266 := n6_; have HB := n7_; clear n0_ n1_ n2_ n3_ n4_ n5_ n6_ n7_; (try clear hb); (try clear hb2); (try clear hk); (try clear hi); obtain ⟨Ao40, co40, eo40⟩ := Kd.R_slice HO246.out; subst eo40; obtain ⟨Ao41, co41, eo41⟩ := Kd.R_slice HO250.out; subst eo41) | (go_at_call 19; (with_reducible refine (fringeref10_Same.calls kj3 _ _ t243 _ _ t247 true _ ?side1 ?side2 ?side3 ?side4 A19.out).mono ?_); (case side1 => repeat (first | exact (Kd.R_reads' HO246.out).2.2 | (with_reducible refine Kd.C_alloc ?_ _) | (with_reducible refine Kd.C_drewN ?_ _) | (with_reducible refine Kd.C_drew ?_))); (case side2 => exact (Kd.R_reads' HO246.out).2.1); (case side3 => repeat (first | exact (Kd.R_reads' HO250.out).2.2 | (with_reducible refine Kd.C_alloc ?_ _) | (with_reducible refine Kd.C_drewN ?_ _) | (with_reducible refine Kd.C_drew ?_))); (case side4 => exact (Kd.R_reads' HO250.out).2.1); rintro e w' ⟨rfl, ⟨nd, rfl⟩⟩; obtain ⟨Ao42, co42, eo42⟩ := Kd.R_slice HO254.out; subst eo42; obtain ⟨Ao43, co43, eo43⟩ := Kd.R_slice HO258.out; subst eo43) | (go_at_call 19; (with_reducible refine (fringeref10_Same.calls kj3 _ _ t251 _ _ t255 true _ ?side1 ?side2 ?side3 ?side4 A22.out).mono ?_); (case side1 => repeat (first | exact (Kd.R_reads' HO254.out).2.2 | (with_reducible refine Kd.C_alloc ?_ _) | (with_reducible refine Kd.C_drewN ?_ _) | (with_reducible refine Kd.C_drew ?_))); (case side2 => exact (Kd.R_reads' HO254.out).2.1); (case side3 => repeat (first | exact (Kd.R_reads' HO258.out).2.2 | (with_reducible refine Kd.C_alloc ?_ _) | (with_reducible refine Kd.C_drewN ?_ _) | (with_reducible refine Kd.C_drew ?_))); (case side4 => exact (Kd.R_reads' HO258.out).2.1); rintro e w' ⟨rfl, ⟨nd, rfl⟩⟩; obtain ⟨Ao44, co44, eo44⟩ := Kd.R_slice HO262.out; subst eo44; obtain ⟨Ao45, co45, eo45⟩ := Kd.R_slice HO266.out; subst eo45) | (go_at_call 19; (with_reducible refine (fringeref10_Same.calls kj3 _ _ t259 _ _ t263 true _ ?side1 ?side2 ?side3 ?side4 A25.out).mono ?_); (case side1 => repeat (first | exact (Kd.R_reads' HO262.out).2.2 | (with_reducible refine Kd.C_alloc ?_ _) | (with_reducible refine Kd.C_drewN ?_ _) | (with_reducible refine Kd.C_drew ?_))); (case side2 => exact (Kd.R_reads' HO262.out).2.1); (case side3 => repeat (first | exact (Kd.R_reads' HO266.out).2.2 | (with_reducible refine Kd.C_alloc ?_ _) | (with_reducible refine Kd.C_drewN ?_ _) | (with_reducible refine Kd.C_drew ?_))); (case side4 => exact (Kd.R_reads' HO266.out).2.1); rintro e w' ⟨rfl, ⟨nd, rfl⟩⟩; obtain ⟨Ao46, co46, eo46⟩ := Kd.R_slice HO242.out; subst eo46) | (go_at_call 19; (with_reducible refine (fringeref10_Same.calls kj3 _ _ l1 _ _ y240 t272 _ ?side1 ?side2 ?side3 ?side4 A28.out).mono ?_); (case side1 => repeat (first | exact (Kd.C_below HR1.out (by repeat (first | (with_reducible first | exact HB.out | apply below_alloc | apply pw_below_drewN | apply below_drew1) | exact HB.out))) | (with_reducible refine Kd.C_alloc ?_ _) | (with_reducible refine Kd.C_drewN ?_ _) | (with_reducible refine Kd.C_drew ?_))); (case side2 => exact HC1.out); (case side3 => repeat (first | exact (Kd.R_reads' HO242.out).2.2 | (with_reducible refine Kd.C_alloc ?_ _) | (with_reducible refine Kd.C_drewN ?_ _) | (with_reducible refine Kd.C_drew ?_))); (case side4 => exact (Kd.R_reads' HO242.out).2.1); rintro e w' ⟨rfl, ⟨nd, rfl⟩⟩))
      go_ret
      exact ⟨by first | rfl | (simp [errW_none, errW_some] <;> rfl) | (simp [*, errW_none, errW_some] <;> rfl), by repeat (first | (with_reducible first | exact HB.out | apply below_alloc | apply pw_below_drewN | apply below_drew1) | exact HB.out)⟩
/-- THE ONE PURE STATEMENT of fringelaw11_FourierTransforms: yours. -/
def fringelaw11_FourierTransforms.Pure : Prop := ∀ (a0 : Int) (l1 : List Int) (l2 : List Int), (Lit.int .i64 a0).wf = true → l1.length ≤ maxLen → l1.length * 8 ≤ 140737488351232 → (∀ x ∈ l1, (Lit.int .i64 x).wf = true) → l2.length ≤ maxLen → l2.length * 8 ≤ 140737488351232 → (∀ x ∈ l2, (Lit.int .i64 x).wf = true) → ∃ k, fringelaw11_FourierTransforms.f k a0 l1 l2 = some true
theorem fringelaw11_FourierTransforms.walk (P : fringelaw11_FourierTransforms.Pure) (a0 : Int) (a1 : Option Addr) (len1 cap1 : Nat) (z1 : List Int) (a2 : Option Addr) (len2 cap2 : Nat) (z2 : List Int) (w : World) (w0 : (Lit.int .i64 a0).wf = true) (w1 : (a1 = none ∧ len1 = 0 ∧ cap1 = 0 ∧ z1 = []) ∨ ∃ x, a1 = some x ∧ len1 ≤ cap1 ∧ cap1 ≤ maxLen ∧ z1.length = cap1 ∧ (∀ i, i < z1.length → w.cell? (x.add i) = some (.int .i64 (z1.getD i 0))) ∧ ∀ n ∈ z1, (Lit.int .i64 n).wf = true) (y1 : len1 * 8 ≤ 140737488351232) (w2 : (a2 = none ∧ len2 = 0 ∧ cap2 = 0 ∧ z2 = []) ∨ ∃ x, a2 = some x ∧ len2 ≤ cap2 ∧ cap2 ≤ maxLen ∧ z2.length = cap2 ∧ (∀ i, i < z2.length → w.cell? (x.add i) = some (.int .i64 (z2.getD i 0))) ∧ ∀ n ∈ z2, (Lit.int .i64 n).wf = true) (y2 : len2 * 8 ≤ 140737488351232) :
    Calls Try.prog 3 #[.int .i64 a0, .slice a1 len1 cap1, .slice a2 len2 cap2] w fun e w' => e = .returned (.bool true) ∧ Below w.heap.size w w' := by
  obtain ⟨l1, rfl, hr1, hm1, hw1, hc1⟩ := ReadsInt.ofRowC w1
  obtain ⟨l2, rfl, hr2, hm2, hw2, hc2⟩ := ReadsInt.ofRowC w2
  obtain ⟨k, h⟩ := P a0 l1 l2 w0 hm1 y1 hw1 hm2 y2 hw2
  refine (fringelaw11_FourierTransforms.calls k a0 _ _ l1 _ _ l2 true w (Kd.C_of_reads (d := (0 : Int)) (h1 := fun _ => rfl) hr1) hc1 (Kd.C_of_reads (d := (0 : Int)) (h1 := fun _ => rfl) hr2) hc2 rfl h).mono ?_
  rintro e w' ⟨rfl, hd⟩
  exact ⟨rfl, hd⟩

/-! ### fourier_Turn: function 20 -/
set_option maxHeartbeats 4000000 in
theorem fourier_Turn.grow (n : Nat) (hn : n ≤ 1000000) (w : World) :
    Calls Try.prog 53 #[.slice none 0 0, .int .i64 (n : Int)] w fun e w' => ∃ v : Value, e = .returned v ∧ Kd.R (Kd.int .i64) 2 w' w.heap.size (fun _ => True) v [] ∧ Below w.heap.size w w' := by
  have hneg : decide ((n : Int) < 0) = false := decide_eq_false (by omega)
  have e1 : wrap64 (n : Int) = (n : Int) := by unfold wrap64; omega
  have E1 := Aside0.mk e1
  rcases Nat.eq_zero_or_pos n with rfl | hpos
  · go_enter Try.func53, Try.ntmps53
    go_wp2
    go_ret
    exact ⟨_, rfl, Kd.R_nil _ _ _ _ _, Below.refl _ _⟩
  · have hp2 : decide (0 < (n : Int)) = true := decide_eq_true (by omega)
    have HN := Aside0.mk hn
    clear hn
    go_enter Try.func53, Try.ntmps53
    go_wp2_with ((with_reducible refine gate_builtin (b := .append) (xs := #[.tmp 20, .tmp 21]) rfl ?_); at_builtin; refine Kd.R_append_zeros (Kd.int .i64) (w0 := w) w.heap.size rfl (.tmp 20) (.tmp 21) 22 3 2 (.int .i64 0) 8 rfl Try.underlying22 Try.underlying3 info2 rfl (by decide) (by omega) (.slice none 0 0) [] 0 (wrap64 (n : Int)) (fun _ => True) rfl rfl rfl (fun _ _ => trivial) (Kd.R_nil _ _ _ _ _) (by rw [E1.out]; omega) (Below.refl _ _) (Nat.le_refl _) (by have := HN.out; rw [E1.out]; simp only [List.length_nil, Int.toNat_natCast]; omega) ?_; intro v1 w1 ho hb hg hat; (obtain ⟨A_, c_, rfl⟩ := Kd.R_slice ho); have HO := Aside0.mk (Kd.R_take (m := 0) ho (Nat.zero_le _)); have HB := Aside0.mk hb; clear ho hb hg hat)
    go_ret
    exact ⟨_, rfl, HO.out, HB.out⟩
set_option maxHeartbeats 8000000 in
set_option maxRecDepth 100000 in
theorem fourier_Turn.concat (A1 A2 : Option Addr) (c1 c2 : Nat) (l1 l2 : List Int) (B : Nat) (w : World) (hB : w.cell? ⟨B, 0, none⟩ = some (.slice A1 l1.length c1)) (hB2 : w.cell? ⟨B, 1, none⟩ = some (.slice A2 l2.length c2))
    (hr1 : Kd.C (Kd.int .i64) w A1 l1.length l1) (hr2 : Kd.C (Kd.int .i64) w A2 l2.length l2) (hl : l1.length + l2.length ≤ 1000000) :
    Calls Try.prog 41 #[.slice (some ⟨B, 0, none⟩) 2 2] w fun e w' => ∃ v : Value, e = .returned v ∧ Kd.R (Kd.int .i64) 2 w' w.heap.size (fun _ => True) v (l1 ++ l2) ∧ Below w.heap.size w w' := by
  have HR1 := Aside0.mk hr1
  have HR2 := Aside0.mk hr2
  have HL := Aside0.mk hl
  have w1 : wrap64 (l1.length : Int) = (l1.length : Int) := by unfold wrap64; omega
  have w2 : wrap64 ((l1.length : Int) + (l2.length : Int)) = (l1.length : Int) + (l2.length : Int) := by unfold wrap64; omega
  have n1 : decide ((l1.length : Int) < 0) = false := decide_eq_false (by omega)
  have n2 : decide ((l1.length : Int) + (l2.length : Int) < 0) = false := decide_eq_false (by omega)
  have hlt := World.block_lt_of_cell? _ _ hB
  have HLT := Aside0.mk hlt
  clear hr1 hr2 hl hlt
  go_enter Try.func41, Try.ntmps41
  go_wp2
  go_loopg [3, 11] 3 (fun kq v3 v11 w' => ∃ i : Nat, v11 = .int .i64 (i : Int) ∧ Aside0 (kq + i = 3) ∧ w = w' ∧ ((i = 0 ∧ v3 = .int .i64 0) ∨ (i = 1 ∧ v3 = .int .i64 (l1.length : Int)) ∨ (i = 2 ∧ v3 = .int .i64 ((l1.length : Int) + (l2.length : Int)))))
  case atStart => exact ⟨0, by simp, ⟨by simp⟩, rfl, .inl ⟨rfl, rfl⟩⟩
  case round =>
    obtain ⟨i, rfl, HK, rfl, hc⟩ := hrel
    rcases hc with ⟨rfl, rfl⟩ | ⟨rfl, rfl⟩ | ⟨rfl, rfl⟩
    · go_wp2
      go_roundg 2
      case measure => have := HK.out; omega
      case rel => exact ⟨1, by simp, ⟨by simp⟩, rfl, .inr (.inl ⟨rfl, by simp [w1]⟩)⟩
    · go_wp2
      go_roundg 1
      case measure => have := HK.out; omega
      case rel => exact ⟨2, by simp, ⟨by simp⟩, rfl, .inr (.inr ⟨rfl, by simp [w2]⟩)⟩
    · go_wp2_with (go_at_call 53; refine (fourier_Turn.grow _ HL.out _).mono ?_; rintro e wG ⟨v, rfl, hr, hb⟩; have HRV := Aside0.mk hr; have HB := Aside0.mk hb; have hB_ := (hb.cell (p := ⟨B, 0, none⟩) (World.block_lt_of_cell? _ _ hB)).trans hB; have hB2_ := (hb.cell (p := ⟨B, 1, none⟩) (World.block_lt_of_cell? _ _ hB2)).trans hB2; clear hr hb hB hB2)
      go_loopg [6, 27] 3 (fun kq v6 v27 w' => ∃ i : Nat, v27 = .int .i64 (i : Int) ∧ Aside0 (kq + i = 3) ∧ Aside0 (Below w.heap.size w w') ∧ w'.cell? ⟨B, 0, none⟩ = some (.slice A1 l1.length c1) ∧ w'.cell? ⟨B, 1, none⟩ = some (.slice A2 l2.length c2) ∧ ∃ xs : List Int, Aside0 (Kd.R (Kd.int .i64) 2 w' w.heap.size (fun _ => True) v6 xs) ∧ ((i = 0 ∧ [] = xs) ∨ (i = 1 ∧ l1 = xs) ∨ (i = 2 ∧ l1 ++ l2 = xs)))
      case atStart => exact ⟨0, by simp, ⟨by simp⟩, HB, hB_, hB2_, [], HRV, .inl ⟨rfl, rfl⟩⟩
      case round =>
        clear HB hB_ hB2_ HRV HK
        obtain ⟨i, rfl, HK, HB, hB_, hB2_, xs, HXS, hc⟩ := hrel
        rcases hc with ⟨rfl, rfl⟩ | ⟨rfl, rfl⟩ | ⟨rfl, rfl⟩
        · have hr_ := HXS.out
          obtain ⟨A_, c_, e_⟩ := Kd.R_slice hr_
          subst e_
          clear hr_
          go_wp2_with ((with_reducible refine gate_builtin (b := .append) (xs := #[.tmp 31, .tmp 32]) rfl ?_); at_builtin; refine Kd.R_append_rows (Kd.int .i64) (w0 := w) w.heap.size rfl (.tmp 31) (.tmp 32) 22 2 (.int .i64 0) 8 rfl Try.underlying22 info2 rfl (by decide) (by omega) _ [] l1 _ _ _ (fun _ => True) (fun _ => False) rfl rfl ?aO ?aR (fun _ _ h => h) (fun _ h => h.elim) ?aF ?aB ?aS ?aL ?_; (case aR => exact (Kd.C_below HR1.out HB.out)); (case aB => exact HB.out); (case aF => exact (fun _ _ => trivial)); (case aO => exact HXS.out); (case aS => exact below_size HB.out); (case aL => have := HL.out; (try simp only [List.length_nil]); omega); intro v1 w31 ho hb hg hat; have HBN := Aside0.mk hb; have HON := Aside0.mk ho; have hne_ := fun (e_ : some B = _) => (absurd (Kd.R_base HXS.out _ e_.symm) (Nat.not_le.2 HLT.out) : False); have q1_ := hg.cell hB_ hne_; have q2_ := hg.cell hB2_ hne_; clear hne_ hg hat ho hb)
          go_roundg 2
          case measure => have := HK.out; omega
          case rel => exact ⟨1, by simp, ⟨by simp⟩, HBN, q1_, q2_, _, HON, .inr (.inl ⟨rfl, by simp⟩)⟩
        · have hr_ := HXS.out
          obtain ⟨A_, c_, e_⟩ := Kd.R_slice hr_
          subst e_
          clear hr_
          go_wp2_with ((with_reducible refine gate_builtin (b := .append) (xs := #[.tmp 31, .tmp 32]) rfl ?_); at_builtin; refine Kd.R_append_rows (Kd.int .i64) (w0 := w) w.heap.size rfl (.tmp 31) (.tmp 32) 22 2 (.int .i64 0) 8 rfl Try.underlying22 info2 rfl (by decide) (by omega) _ l1 l2 _ _ _ (fun _ => True) (fun _ => False) rfl rfl ?aO ?aR (fun _ _ h => h) (fun _ h => h.elim) ?aF ?aB ?aS ?aL ?_; (case aR => exact (Kd.C_below HR2.out HB.out)); (case aB => exact HB.out); (case aF => exact (fun _ _ => trivial)); (case aO => exact HXS.out); (case aS => exact below_size HB.out); (case aL => have := HL.out; (try simp only [List.length_nil]); omega); intro v1 w31 ho hb hg hat; have HBN := Aside0.mk hb; have HON := Aside0.mk ho; have hne_ := fun (e_ : some B = _) => (absurd (Kd.R_base HXS.out _ e_.symm) (Nat.not_le.2 HLT.out) : False); have q1_ := hg.cell hB_ hne_; have q2_ := hg.cell hB2_ hne_; clear hne_ hg hat ho hb)
          go_roundg 1
          case measure => have := HK.out; omega
          case rel => exact ⟨2, by simp, ⟨by simp⟩, HBN, q1_, q2_, _, HON, .inr (.inr ⟨rfl, rfl⟩)⟩
        · go_wp2
          go_ret
          exact ⟨_, rfl, HXS.out, HB.out⟩
def fourier_Turn.g (l1 : List Int) (a2 : Int) : Option (List Int × Int) := if (l1.length : Int) = 0 then none else some (l1.drop (l1.length - (Int.tmod (wrap64 ((Int.tmod a2 (l1.length : Int)) + (l1.length : Int))) (l1.length : Int)).toNat) ++ l1.take (l1.length - (Int.tmod (wrap64 ((Int.tmod a2 (l1.length : Int)) + (l1.length : Int))) (l1.length : Int)).toNat), 0)
def fourier_Turn.f (k : Nat) (a0 : Int) (l1 : List Int) (a2 : Int) : Option (List Int × Int) := (fourier_Check.f k a0 l1).bind fun t304 => (if t304 = 0 then (if l1.length ≤ 1000000 then fourier_Turn.g l1 a2 else none) else (some (([] : List Int), t304)))
theorem fourier_Turn.mono : ∀ a0 a1 a2 k, LeO (fourier_Turn.f k a0 a1 a2) (fourier_Turn.f (k + 1) a0 a1 a2) := by
  intro a0 a1 a2 k
  unfold fourier_Turn.f
  refine LeO.bind (fourier_Check.mono _ _ _) (fun _ => LeO.ite (LeO.refl _) (LeO.refl _))
set_option maxHeartbeats 8000000 in
set_option maxRecDepth 100000 in
theorem fourier_Turn.calls (k : Nat) (a0 : Int) (A1 : Option Addr) (c1 : Nat) (l1 : List Int) (a2 : Int) (r1 : List Int) (r2 : Int) (w : World) (hr1 : Kd.C (Kd.int .i64) w A1 l1.length l1) (hc1 : l1.length ≤ c1) (h : fourier_Turn.f k a0 l1 a2 = some (r1, r2)) :
    Calls Try.prog 20 #[.int .i64 a0, .slice A1 l1.length c1, .int .i64 a2] w fun e w' => ∃ v0_ : Value, e = .returned (.tuple #[v0_, .int .i64 r2]) ∧ Kd.R (Kd.int .i64) 2 w' w.heap.size (fun _ => True) v0_ r1 ∧ Below w.heap.size w w' := by
  have HR1 := Aside0.mk hr1
  have HC1 := Aside0.mk hc1
  clear hr1 hc1
  have HB := Aside0.mk (Below.refl w.heap.size w)
  have H : ((fourier_Check.f k a0 l1).bind fun t304 => (if t304 = 0 then (if l1.length ≤ 1000000 then fourier_Turn.g l1 a2 else none) else (some (([] : List Int), t304)))) = some (r1, r2) := h
  clear h
  replace H := Option.bind_eq_some_iff.mp H
  obtain ⟨t304, A40, H⟩ := H
  replace H : (if t304 = 0 then (if l1.length ≤ 1000000 then fourier_Turn.g l1 a2 else none) else (some (([] : List Int), t304))) = some (r1, r2) := H
  have A4 := Aside0.mk A40
  clear A40
  by_cases c5 : t304 = 0
  rotate_left
  · rw [if_neg c5] at H
    have c5b0 : (t304 == 0) = false := beq_eq_false_iff_ne.mpr c5
    have c5b1 : (t304 != 0) = true := bne_iff_ne.mpr c5
    simp only [Option.some.injEq, Prod.mk.injEq] at H
    obtain ⟨rfl, rfl⟩ := H
    go_enter Try.func20, Try.ntmps20
    go_wp2_with (first | ((with_reducible refine gate_callee (f := 17) rfl ?_); refine goesL_ (some 12) rfl rfl Try.func17 (by kernel_rfl) rfl #[.int .i64 a0, .slice A1 l1.length c1] rfl (by (try simp only [List.map_toArray, List.map_cons, List.map_nil]); first | done | rfl | (simp only [List.length_drop, List.length_take]; rfl)) ?_; (with_reducible refine (fourier_Check.calls k a0 _ _ l1 t304 _ ?side1 ?side2 A4.out).mono ?_); (case side1 => repeat (first | exact HR1.out | (with_reducible refine Kd.C_alloc ?_ _) | (with_reducible refine Kd.C_drewN ?_ _) | (with_reducible refine Kd.C_drew ?_))); (case side2 => exact HC1.out); rintro e w22 ⟨rfl, hb⟩; refine ⟨_, rfl, ?_⟩; have n0_ := Aside0.mk (below_step (by repeat (first | (with_reducible first | exact HB.out | apply below_alloc | apply pw_below_drewN | apply below_drew1) | exact HB.out)) hb); clear HB; have HB := n0_; clear n0_; (try clear hb); (try clear hb2); (try clear hk); (try clear hi)))
    go_ret2
    exact ⟨_, by first | rfl | (simp [errW_none, errW_some] <;> rfl) | (simp [*, errW_none, errW_some] <;> rfl), by first | exact Kd.R_nil _ _ _ _ _ | exact Kd.N_nil _ _ _ _ _ | exact Kd.V_nil _ _ _ _ _ | exact Kd.Q_nil _ _ _ _ _ | exact Kd.S_nil _ _ _ _ _, by repeat (first | (with_reducible first | exact HB.out | apply below_alloc | apply pw_below_drewN | apply below_drew1) | exact HB.out)⟩
  rw [if_pos c5] at H
  have c5b0 : (t304 == 0) = true := beq_iff_eq.mpr c5
  have c5b1 : (t304 != 0) = false := bne_eq_false_iff_eq.mpr c5
  clear c5
  by_cases c6 : l1.length ≤ 1000000
  rotate_left
  · rw [if_neg c6] at H
    exact absurd H (by simp)
  rw [if_pos c6] at H
  unfold fourier_Turn.g at H
  by_cases c7 : (l1.length : Int) = 0
  · rw [if_pos c7] at H
    exact absurd H (by simp)
  rw [if_neg c7] at H
  have c7b0 : ((l1.length : Int) == 0) = false := beq_eq_false_iff_ne.mpr c7
  have c7b2 : ¬ (l1 = []) := fun h_ => c7 (by rw [h_]; rfl)
  have hd0 : 0 ≤ Int.tmod (wrap64 (Int.tmod a2 (l1.length : Int) + (l1.length : Int))) (l1.length : Int) := by
    refine Int.tmod_nonneg _ ?_
    have h1 := Int.tmod_lt_of_pos (-a2) (show (0 : Int) < l1.length by omega)
    have h2 := Int.tmod_lt_of_pos a2 (show (0 : Int) < l1.length by omega)
    rw [Int.neg_tmod] at h1
    unfold wrap64
    omega
  have hd1 := Int.tmod_lt_of_pos (wrap64 (Int.tmod a2 (l1.length : Int) + (l1.length : Int))) (show (0 : Int) < l1.length by omega)
  obtain ⟨dN, hd⟩ := Int.eq_ofNat_of_zero_le hd0
  rw [hd] at H hd1
  obtain ⟨m, hm⟩ : ∃ m : Nat, m = l1.length - dN := ⟨_, rfl⟩
  rw [Int.toNat_natCast, ← hm] at H
  have hm1 : m ≤ l1.length := by omega
  have hm2 : wrap64 ((l1.length : Int) - (dN : Int)) = (m : Int) := by unfold wrap64; omega
  simp only [Option.some.injEq, Prod.mk.injEq] at H
  obtain ⟨rfl, rfl⟩ := H
  have C6 := Aside0.mk c6
  have HD := Aside0.mk (⟨hd0, hd1, hm⟩ : _ ∧ _ ∧ _)
  have c8b0 := HC1.out
  have c9b0 : (0 : Int) ≤ (m : Int) := by omega
  have c9b1 : (m : Int) ≤ (l1.length : Int) := by omega
  have c9b2 : m ≤ c1 := by have := HC1.out; omega
  obtain ⟨ad, eA_, _⟩ := HR1.out.2.2 (by omega)
  subst eA_
  clear c6 hd0 hd1 hm c7
  go_enter Try.func20, Try.ntmps20
  go_wp2_with (first | ((with_reducible refine gate_callee (f := 17) rfl ?_); refine goesL_ (some 12) rfl rfl Try.func17 (by kernel_rfl) rfl #[.int .i64 a0, .slice (some ad) l1.length c1] rfl (by (try simp only [List.map_toArray, List.map_cons, List.map_nil]); first | done | rfl | (simp only [List.length_drop, List.length_take]; rfl)) ?_; (with_reducible refine (fourier_Check.calls k a0 _ _ l1 t304 _ ?side1 ?side2 A4.out).mono ?_); (case side1 => repeat (first | exact HR1.out | (with_reducible refine Kd.C_alloc ?_ _) | (with_reducible refine Kd.C_drewN ?_ _) | (with_reducible refine Kd.C_drew ?_))); (case side2 => exact HC1.out); rintro e w22 ⟨rfl, hb⟩; refine ⟨_, rfl, ?_⟩; have n0_ := Aside0.mk (below_step (by repeat (first | (with_reducible first | exact HB.out | apply below_alloc | apply pw_below_drewN | apply below_drew1) | exact HB.out)) hb); clear HB; have HB := n0_; clear n0_; (try clear hb); (try clear hb2); (try clear hk); (try clear hi)))
  refine start_ (n := 14) (S := fun _ => True) (ds := []) #[false, false, false, false, false, false, false, false, false, false, false, false, false, false] (by kernel_rfl) rfl rfl trivial (fun hHeld => ?_)
  refine pure_ (i := 0) (N := some 25) (v := ?_) (a' := ?_) #[true, false, false, false, false, false, false, false, false, false, false, false, false, false] rfl rfl (by kernel_rfl) (fun _ _ _ h => h) (Or.inl ⟨by rfl, ?_⟩) ?_ ?_
  rotate_left
  · intro w'
    go_simp
    with_reducible rfl
  rotate_left
  · simp only [Act.put, List.setIfInBounds_toArray, List.set_cons_zero, List.set_cons_succ, i64_w, i32_w]
    rfl
  refine pure_ (i := 1) (N := some 26) (v := ?_) (a' := ?_) #[true, true, false, false, false, false, false, false, false, false, false, false, false, false] rfl rfl (by kernel_rfl) (fun _ _ _ h => h) (Or.inl ⟨by rfl, ?_⟩) ?_ ?_
  rotate_left
  · intro w'
    go_simp
    with_reducible rfl
  rotate_left
  · simp only [Act.put, List.setIfInBounds_toArray, List.set_cons_zero, List.set_cons_succ, i64_w, i32_w]
    rfl
  refine pure_ (i := 2) (N := some 27) (v := ?_) (a' := ?_) #[true, true, true, false, false, false, false, false, false, false, false, false, false, false] rfl rfl (by kernel_rfl) (fun _ _ _ h => h) (Or.inl ⟨by rfl, ?_⟩) ?_ ?_
  rotate_left
  · intro w'
    go_simp
    with_reducible rfl
  rotate_left
  · simp only [Act.put, List.setIfInBounds_toArray, List.set_cons_zero, List.set_cons_succ, i64_w, i32_w]
    rfl
  refine pure_ (i := 5) (N := some 30) (v := ?_) (a' := ?_) #[true, true, true, false, false, true, false, false, false, false, false, false, false, false] rfl rfl (by kernel_rfl) (fun _ _ _ h => h) (Or.inl ⟨by rfl, ?_⟩) ?_ ?_
  rotate_left
  · intro w'
    go_simp
    with_reducible rfl
  rotate_left
  · simp only [Act.put, List.setIfInBounds_toArray, List.set_cons_zero, List.set_cons_succ, i64_w, i32_w]
    rfl
  refine pure_ (i := 6) (N := some 31) (v := ?_) (a' := ?_) #[true, true, true, false, false, true, true, false, false, false, false, false, false, false] rfl rfl (by kernel_rfl) (fun _ _ _ h => h) (Or.inl ⟨by rfl, ?_⟩) ?_ ?_
  rotate_left
  · intro w'
    go_simp
    with_reducible rfl
  rotate_left
  · simp only [Act.put, List.setIfInBounds_toArray, List.set_cons_zero, List.set_cons_succ, i64_w, i32_w]
    rfl
  refine pure_ (i := 7) (N := some 32) (v := ?_) (a' := ?_) #[true, true, true, false, false, true, true, true, false, false, false, false, false, false] rfl rfl (by kernel_rfl) (fun _ _ _ h => h) (Or.inl ⟨by rfl, ?_⟩) ?_ ?_
  rotate_left
  · intro w'
    go_simp
    with_reducible rfl
  rotate_left
  · simp only [Act.put, List.setIfInBounds_toArray, List.set_cons_zero, List.set_cons_succ, i64_w, i32_w]
    rfl
  refine pure_ (i := 3) (N := some 28) (v := ?_) (a' := ?_) #[true, true, true, true, false, true, true, true, false, false, false, false, false, false] rfl rfl (by kernel_rfl) (fun _ _ _ h => h) (Or.inl ⟨by rfl, ?_⟩) ?_ ?_
  rotate_left
  · intro w'
    go_simp
    with_reducible rfl
  rotate_left
  · simp only [Act.put, List.setIfInBounds_toArray, List.set_cons_zero, List.set_cons_succ, i64_w, i32_w]
    rfl
  refine pure_ (i := 8) (N := some 33) (v := ?_) (a' := ?_) #[true, true, true, true, false, true, true, true, true, false, false, false, false, false] rfl rfl (by kernel_rfl) (fun _ _ _ h => h) (Or.inl ⟨by rfl, ?_⟩) ?_ ?_
  rotate_left
  · intro w'
    go_simp
    with_reducible rfl
  rotate_left
  · simp only [Act.put, List.setIfInBounds_toArray, List.set_cons_zero, List.set_cons_succ, i64_w, i32_w]
    rfl
  refine pure_ (i := 4) (N := some 29) (v := ?_) (a' := ?_) #[true, true, true, true, true, true, true, true, true, false, false, false, false, false] rfl rfl (by kernel_rfl) (fun _ _ _ h => h) (Or.inl ⟨by rfl, ?_⟩) ?_ ?_
  rotate_left
  · intro w'
    go_simp
    with_reducible rfl
  rotate_left
  · simp only [Act.put, List.setIfInBounds_toArray, List.set_cons_zero, List.set_cons_succ, i64_w, i32_w]
    rfl
  refine pure_ (i := 9) (N := some 34) (v := ?_) (a' := ?_) #[true, true, true, true, true, true, true, true, true, true, false, false, false, false] rfl rfl (by kernel_rfl) (fun _ _ _ h => h) (Or.inl ⟨by rfl, ?_⟩) ?_ ?_
  rotate_left
  · intro w'
    go_simp
    with_reducible rfl
  rotate_left
  · simp only [Act.put, List.setIfInBounds_toArray, List.set_cons_zero, List.set_cons_succ, i64_w, i32_w]
    rfl
  refine one_ (i := 10) (N := some 35) #[true, true, true, true, true, true, true, true, true, true, true, false, false, false] rfl rfl (by kernel_rfl) (by decide) (fun K hK => ?_)
  refine event_step (w1 := w22.drew.alloc (.cells #[.slice (if c1 = m then some ad else some (ad.add m)) (l1.length - m) (c1 - m), .slice (some ad) m c1] 22)) (v := .slice (some ⟨w22.heap.size, 0, none⟩) 2 2) (by rfl) ?_ ?_
  · go_simp
  refine hK.out _ _ trivial (fun hHeld => ?_)
  clear hK K
  refine norm_ (a' := ?_) ?_ ?_
  rotate_left
  · show Act.put _ (some 35) _ = _
    simp only [Act.put, List.setIfInBounds_toArray, List.set_cons_zero, List.set_cons_succ, i64_w, i32_w]
    rfl
  refine one_ (i := 11) (N := some 36) #[true, true, true, true, true, true, true, true, true, true, true, true, false, false] rfl rfl (by kernel_rfl) (by decide) (fun K hK => ?_)
  refine goes_ Try.func41 (by kernel_rfl) rfl #[.slice (some ⟨w22.heap.size, 0, none⟩) 2 2] (by rfl) rfl rfl (by (try simp only [List.map_toArray, List.map_cons, List.map_nil]); first | done | rfl) ?_
  have hcd_ := Kd.C_drop (c := c1) (Kd.C_alloc (Kd.C_drew (Kd.C_below HR1.out HB.out)) (.cells #[.slice (if c1 = m then some ad else some (ad.add m)) (l1.length - m) (c1 - m), .slice (some ad) m c1] 22)) hm1 HC1.out
  have hct_ := Kd.C_take (Kd.C_alloc (Kd.C_drew (Kd.C_below HR1.out HB.out)) (.cells #[.slice (if c1 = m then some ad else some (ad.add m)) (l1.length - m) (c1 - m), .slice (some ad) m c1] 22)) hm1
  rw [Option.map_some, show m * (Kd.int .i64).sz = m from Nat.mul_one m] at hcd_
  have hcd2_ : (if c1 = m then some ad else some (ad.add m)) = (if c1 = m then some ad else some (ad.add m)) := rfl
  have hw_ : w22.heap.size = w22.drew.heap.size := rfl
  have hl_ : (l1.drop m).length + (l1.take m).length ≤ 1000000 := by rw [List.length_drop, List.length_take]; have := C6.out; omega
  have hx_ := fourier_Turn.concat (if c1 = m then some ad else some (ad.add m)) (some ad) (c1 - m) c1 (l1.drop m) (l1.take m) w22.heap.size _ (by rw [List.length_drop, hw_, World.cell?_alloc_new]; rfl) (by rw [List.length_take, Nat.min_eq_left hm1, hw_, World.cell?_alloc_new]; rfl) hcd_ hct_ hl_
  refine hx_.mono ?_
  clear hx_ hcd_ hct_ hw_ hl_ hcd2_
  rintro e w1 ⟨v, rfl, hr_, hb_⟩
  have hB1_ := below_step (below_alloc (below_drew HB.out) (.cells #[.slice (if c1 = m then some ad else some (ad.add m)) (l1.length - m) (c1 - m), .slice (some ad) m c1] 22)) hb_
  have HB1 := Aside0.mk hB1_
  have HRV := Aside0.mk (Kd.R_lower hr_ (below_size (below_alloc (below_drew HB.out) (.cells #[.slice (if c1 = m then some ad else some (ad.add m)) (l1.length - m) (c1 - m), .slice (some ad) m c1] 22))))
  clear hr_ hb_ hB1_
  refine ⟨_, rfl, ?_⟩
  refine hK.out _ _ trivial (fun hHeld => ?_)
  clear hK K
  refine norm_ (a' := ?_) ?_ ?_
  rotate_left
  · show Act.put _ (some 36) _ = _
    simp only [Act.put, List.setIfInBounds_toArray, List.set_cons_zero, List.set_cons_succ, i64_w, i32_w]
    rfl
  refine pure_ (i := 12) (N := some 6) (v := ?_) (a' := ?_) #[true, true, true, true, true, true, true, true, true, true, true, true, true, false] rfl rfl (by kernel_rfl) (fun _ _ _ h => h) (Or.inl ⟨by rfl, ?_⟩) ?_ ?_
  rotate_left
  · intro w'
    go_simp
    with_reducible rfl
  rotate_left
  · simp only [Act.put, List.setIfInBounds_toArray, List.set_cons_zero, List.set_cons_succ, i64_w, i32_w]
    rfl
  refine pure_ (i := 13) (N := some 7) (v := ?_) (a' := ?_) #[true, true, true, true, true, true, true, true, true, true, true, true, true, true] rfl rfl (by kernel_rfl) (fun _ _ _ h => h) (Or.inl ⟨by rfl, ?_⟩) ?_ ?_
  rotate_left
  · intro w'
    go_simp
    with_reducible rfl
  rotate_left
  · simp only [Act.put, List.setIfInBounds_toArray, List.set_cons_zero, List.set_cons_succ, i64_w, i32_w]
    rfl
  refine done_ (by kernel_rfl) ?_
  go_wp2
  all_goals (go_ret2; exact ⟨_, rfl, HRV.out, HB1.out⟩)

/-! ### fringeref11_Turn: function 21 -/
def fringeref11_Turn.l0 : Nat → List Int → Int → List Int → Int → Option (List Int × Int)
  | 0, _, _, _, _ => none
  | k + 1, x1, x2, x8, x9 => if x9 < (x1.length : Int) then ((fringeref11_at.f x2 (x1.length : Int)).bind fun t275 => ((fringeref11_at.f (wrap64 (x9 - t275)) (x1.length : Int)).bind fun t276 => (if 0 ≤ t276 then (if t276 < (x1.length : Int) then (if x8.length < 17592186044416 then (fringeref11_Turn.l0 k x1 x2 (x8 ++ [rd x1 t276]) (wrap64 (x9 + 1))) else (none)) else (none)) else (none)))) else (some (x8, 0))
def fringeref11_Turn.f (k : Nat) (a0 : Int) (l1 : List Int) (a2 : Int) : Option (List Int × Int) := (fringeref11_Check.f k a0 l1).bind fun t273 => (if t273 = 0 then (fringeref11_Turn.l0 k l1 a2 ([] : List Int) 0) else ((fringeref11_Check.f k a0 l1).bind fun t274 => (some (([] : List Int), t274))))
theorem fringeref11_Turn.mono_l : ∀ k, (∀ y0 y1 y2 y3, LeO (fringeref11_Turn.l0 k y0 y1 y2 y3) (fringeref11_Turn.l0 (k + 1) y0 y1 y2 y3))
  | 0 => fun _ _ _ _ r h => by simp [fringeref11_Turn.l0] at h
  | k + 1 => by
    have ih0 := fringeref11_Turn.mono_l k
    · intro y0 y1 y2 y3
      unfold fringeref11_Turn.l0
      repeat' first
      | (with_reducible exact ih0 _ _ _ _)
      | (with_reducible exact fringeref11_Check.mono _ _ _)
      | (with_reducible exact LeO.refl _)
      | (with_reducible exact LeO.none _)
      | (with_reducible refine LeO.ite ?_ ?_)
      | (with_reducible refine LeO.bind ?_ (fun _ => ?_))
      | exact ih0 _ _ _ _
      | exact fringeref11_Check.mono _ _ _
      | exact LeO.none _
      | refine LeO.ite ?_ ?_
      | refine LeO.bind ?_ (fun _ => ?_)
theorem fringeref11_Turn.mono : ∀ a0 a1 a2 k, LeO (fringeref11_Turn.f k a0 a1 a2) (fringeref11_Turn.f (k + 1) a0 a1 a2) := by
  intro a0 a1 a2 k
  have ih0 := fringeref11_Turn.mono_l k
  unfold fringeref11_Turn.f
  repeat' first
      | (with_reducible exact ih0 _ _ _ _)
      | (with_reducible exact fringeref11_Check.mono _ _ _)
      | (with_reducible exact LeO.refl _)
      | (with_reducible exact LeO.none _)
      | (with_reducible refine LeO.ite ?_ ?_)
      | (with_reducible refine LeO.bind ?_ (fun _ => ?_))
      | exact ih0 _ _ _ _
      | exact fringeref11_Check.mono _ _ _
      | exact LeO.none _
      | refine LeO.ite ?_ ?_
      | refine LeO.bind ?_ (fun _ => ?_)
set_option maxHeartbeats 8000000 in
set_option maxRecDepth 100000 in
theorem fringeref11_Turn.calls (k : Nat) (a0 : Int) (A1 : Option Addr) (c1 : Nat) (l1 : List Int) (a2 : Int) (r1 : List Int) (r2 : Int) (w : World) (hr1 : Kd.C (Kd.int .i64) w A1 l1.length l1) (hc1 : l1.length ≤ c1) (h : fringeref11_Turn.f k a0 l1 a2 = some (r1, r2)) :
    Calls Try.prog 21 #[.int .i64 a0, .slice A1 l1.length c1, .int .i64 a2] w fun e w' => ∃ v0_ : Value, e = .returned (.tuple #[v0_, .int .i64 r2]) ∧ Kd.R (Kd.int .i64) 2 w' w.heap.size (fun _ => True) v0_ r1 ∧ Below w.heap.size w w' := by
  have HR1 := Aside0.mk hr1
  have HC1 := Aside0.mk hc1
  clear hr1 hc1
  have HB := Aside0.mk (Below.refl w.heap.size w)
  have H : ((fringeref11_Check.f k a0 l1).bind fun t273 => (if t273 = 0 then (fringeref11_Turn.l0 k l1 a2 ([] : List Int) 0) else ((fringeref11_Check.f k a0 l1).bind fun t274 => (some (([] : List Int), t274))))) = some (r1, r2) := h
  clear h
  replace H := Option.bind_eq_some_iff.mp H
  obtain ⟨t273, A40, H⟩ := H
  replace H : (if t273 = 0 then (fringeref11_Turn.l0 k l1 a2 ([] : List Int) 0) else ((fringeref11_Check.f k a0 l1).bind fun t274 => (some (([] : List Int), t274)))) = some (r1, r2) := H
  have A4 := Aside0.mk A40
  clear A40
  by_cases c5 : t273 = 0
  rotate_left
  · rw [if_neg c5] at H
    have c5b0 : (t273 == 0) = false := beq_eq_false_iff_ne.mpr c5
    have c5b1 : (t273 != 0) = true := bne_iff_ne.mpr c5
    replace H := Option.bind_eq_some_iff.mp H
    obtain ⟨t274, A140, H⟩ := H
    replace H : (some (([] : List Int), t274)) = some (r1, r2) := H
    have A14 := Aside0.mk A140
    clear A140
    simp only [Option.some.injEq, Prod.mk.injEq] at H
    obtain ⟨rfl, rfl⟩ := H
    go_enter Try.func21, Try.ntmps21
    go_wp2_with (first | ((with_reducible refine gate_callee (f := 18) rfl ?_); refine goesL_ (some 12) rfl rfl Try.func18 (by kernel_rfl) rfl #[.int .i64 a0, .slice A1 l1.length c1] rfl (by (try simp only [List.map_toArray, List.map_cons, List.map_nil]); first | done | rfl | (simp only [List.length_drop, List.length_take]; rfl)) ?_; (with_reducible refine (fringeref11_Check.calls k a0 _ _ l1 t273 _ ?side1 ?side2 A4.out).mono ?_); (case side1 => repeat (first | exact HR1.out | (with_reducible refine Kd.C_alloc ?_ _) | (with_reducible refine Kd.C_drewN ?_ _) | (with_reducible refine Kd.C_drew ?_))); (case side2 => exact HC1.out); rintro e w15 ⟨rfl, hb⟩; refine ⟨_, rfl, ?_⟩; have n0_ := Aside0.mk (below_step (by repeat (first | (with_reducible first | exact HB.out | apply below_alloc | apply pw_below_drewN | apply below_drew1) | exact HB.out)) hb); clear HB; have HB := n0_; clear n0_; (try clear hb); (try clear hb2); (try clear hk); (try clear hi)) | ((with_reducible refine gate_callee (f := 18) rfl ?_); refine goesL_ (some 16) rfl rfl Try.func18 (by kernel_rfl) rfl #[.int .i64 a0, .slice A1 l1.length c1] rfl (by (try simp only [List.map_toArray, List.map_cons, List.map_nil]); first | done | rfl | (simp only [List.length_drop, List.length_take]; rfl)) ?_; (with_reducible refine (fringeref11_Check.calls k a0 _ _ l1 t274 _ ?side1 ?side2 A14.out).mono ?_); (case side1 => repeat (first | exact (Kd.C_below HR1.out HB.out) | (with_reducible refine Kd.C_alloc ?_ _) | (with_reducible refine Kd.C_drewN ?_ _) | (with_reducible refine Kd.C_drew ?_))); (case side2 => exact HC1.out); rintro e w16 ⟨rfl, hb⟩; refine ⟨_, rfl, ?_⟩; have n0_ := Aside0.mk (below_step (by repeat (first | (with_reducible first | exact HB.out | apply below_alloc | apply pw_below_drewN | apply below_drew1) | exact HB.out)) hb); clear HB; have HB := n0_; clear n0_; (try clear hb); (try clear hb2); (try clear hk); (try clear hi)))
    go_ret2
    exact ⟨_, by first | rfl | (simp [errW_none, errW_some] <;> rfl) | (simp [*, errW_none, errW_some] <;> rfl), by first | exact Kd.R_nil _ _ _ _ _ | exact Kd.N_nil _ _ _ _ _ | exact Kd.V_nil _ _ _ _ _ | exact Kd.Q_nil _ _ _ _ _ | exact Kd.S_nil _ _ _ _ _, by repeat (first | (with_reducible first | exact HB.out | apply below_alloc | apply pw_below_drewN | apply below_drew1) | exact HB.out)⟩
  rw [if_pos c5] at H
  have c5b0 : (t273 == 0) = true := beq_iff_eq.mpr c5
  have c5b1 : (t273 != 0) = false := bne_eq_false_iff_eq.mpr c5
  clear c5
  have H' := Aside0.mk H
  clear H
  go_enter Try.func21, Try.ntmps21
  go_wp2_with (first | ((with_reducible refine gate_callee (f := 18) rfl ?_); refine goesL_ (some 12) rfl rfl Try.func18 (by kernel_rfl) rfl #[.int .i64 a0, .slice A1 l1.length c1] rfl (by (try simp only [List.map_toArray, List.map_cons, List.map_nil]); first | done | rfl | (simp only [List.length_drop, List.length_take]; rfl)) ?_; (with_reducible refine (fringeref11_Check.calls k a0 _ _ l1 t273 _ ?side1 ?side2 A4.out).mono ?_); (case side1 => repeat (first | exact HR1.out | (with_reducible refine Kd.C_alloc ?_ _) | (with_reducible refine Kd.C_drewN ?_ _) | (with_reducible refine Kd.C_drew ?_))); (case side2 => exact HC1.out); rintro e w6 ⟨rfl, hb⟩; refine ⟨_, rfl, ?_⟩; have n0_ := Aside0.mk (below_step (by repeat (first | (with_reducible first | exact HB.out | apply below_alloc | apply pw_below_drewN | apply below_drew1) | exact HB.out)) hb); clear HB; have HB := n0_; clear n0_; (try clear hb); (try clear hb2); (try clear hk); (try clear hi)))
  go_loopg [8, 9] k (fun kq v8 v9 w' => ∃ (x8_1 : List Int) (x9_1 : Int), v9 = .int .i64 x9_1 ∧ Aside0 (fringeref11_Turn.l0 kq l1 a2 x8_1 x9_1 = some (r1, r2)) ∧ Aside0 (kq ≤ k) ∧ Aside0 (Kd.R (Kd.int .i64) 2 w' w.heap.size (fun _ => True) v8 x8_1) ∧ Aside0 (Below w.heap.size w w'))
  case atStart => exact ⟨(([] : List Int)), (0), (by first | rfl | (simp; done) | (simp [*]; done) | (simp [i64_w]; done)), H', ⟨Nat.le_refl _⟩, ⟨by first | exact Kd.R_nil _ _ _ _ _ | exact Kd.N_nil _ _ _ _ _ | exact Kd.V_nil _ _ _ _ _ | exact Kd.Q_nil _ _ _ _ _ | exact Kd.S_nil _ _ _ _ _⟩, ⟨by repeat (first | (with_reducible first | exact HB.out | apply below_alloc | apply pw_below_drewN | apply below_drew1) | exact HB.out)⟩⟩
  case round =>
    clear H'
    try clear c1
    try clear c2
    try clear p2
    try clear c5
    try clear c5b0
    try clear c5b1
    obtain ⟨x8_1, x9_1, rfl, HA, HK1, HO_8, HB⟩ := hrel
    cases gk with
    | zero => exact absurd HA.out (by simp [fringeref11_Turn.l0])
    | succ k1 =>
      have H := HA.out
      clear HA
      simp only [fringeref11_Turn.l0] at H
      by_cases c7 : x9_1 < (l1.length : Int)
      rotate_left
      · rw [if_neg c7] at H
        have c7b0 : decide (x9_1 < (l1.length : Int)) = false := decide_eq_false c7
        clear c7
        simp only [Option.some.injEq, Prod.mk.injEq] at H
        obtain ⟨rfl, rfl⟩ := H
        go_wp2
        go_ret2
        exact ⟨_, by first | rfl | (simp [errW_none, errW_some] <;> rfl) | (simp [*, errW_none, errW_some] <;> rfl), by (with_reducible repeat (first | apply Kd.R_alloc | apply Kd.R_drewN | apply Kd.R_drew)); exact HO_8.out, by repeat (first | (with_reducible first | exact HB.out | apply below_alloc | apply pw_below_drewN | apply below_drew1) | exact HB.out)⟩
      rw [if_pos c7] at H
      have c7b0 : decide (x9_1 < (l1.length : Int)) = true := decide_eq_true c7
      clear c7
      replace H := Option.bind_eq_some_iff.mp H
      obtain ⟨t275, A80, H⟩ := H
      replace H : ((fringeref11_at.f (wrap64 (x9_1 - t275)) (l1.length : Int)).bind fun t276 => (if 0 ≤ t276 then (if t276 < (l1.length : Int) then (if x8_1.length < 17592186044416 then (fringeref11_Turn.l0 k1 l1 a2 (x8_1 ++ [rd l1 t276]) (wrap64 (x9_1 + 1))) else (none)) else (none)) else (none))) = some (r1, r2) := H
      have A8 := Aside0.mk A80
      clear A80
      replace H := Option.bind_eq_some_iff.mp H
      obtain ⟨t276, A90, H⟩ := H
      replace H : (if 0 ≤ t276 then (if t276 < (l1.length : Int) then (if x8_1.length < 17592186044416 then (fringeref11_Turn.l0 k1 l1 a2 (x8_1 ++ [rd l1 t276]) (wrap64 (x9_1 + 1))) else (none)) else (none)) else (none)) = some (r1, r2) := H
      have A9 := Aside0.mk A90
      clear A90
      by_cases c10 : 0 ≤ t276
      rotate_left
      · rw [if_neg c10] at H
        exact absurd H (by simp)
      rw [if_pos c10] at H
      have c10b0 : decide (0 ≤ t276) = true := decide_eq_true c10
      clear c10
      by_cases c11 : t276 < (l1.length : Int)
      rotate_left
      · rw [if_neg c11] at H
        exact absurd H (by simp)
      rw [if_pos c11] at H
      have c11b0 : decide (t276 < (l1.length : Int)) = true := decide_eq_true c11
      clear c11
      by_cases c12 : x8_1.length < 17592186044416
      rotate_left
      · rw [if_neg c12] at H
        exact absurd H (by simp)
      rw [if_pos c12] at H
      have LMc12 := Aside0.mk c12
      clear c12
      obtain ⟨y278, hy278⟩ : ∃ y_ : List Int, y_ = (x8_1 ++ [rd l1 t276]) := ⟨_, rfl⟩
      replace H : (fringeref11_Turn.l0 k1 l1 a2 y278 (wrap64 (x9_1 + 1))) = some (r1, r2) := by first | (rw [hy278]; with_reducible exact H) | (have H2_ := (Option.bind_some _ _).symm.trans H; rw [hy278]; with_reducible exact H2_) | (have H2_ := (Option.bind_some _ _).symm.trans H; with_reducible exact H2_) | with_reducible exact H | (rw [hy278]; exact H) | exact H
      have Ny278 := Aside0.mk hy278
      clear hy278
      have H' := Aside0.mk H
      clear H
      go_wp2_with (first | ((with_reducible refine gate_callee (f := 42) rfl ?_); refine goesL_ (some 29) rfl rfl Try.func42 (by kernel_rfl) rfl #[.int .i64 a2, .int .i64 (l1.length : Int)] rfl (by (try simp only [List.map_toArray, List.map_cons, List.map_nil]); first | done | rfl | (simp only [List.length_drop, List.length_take]; rfl)) ?_; (with_reducible refine (fringeref11_at.calls a2 (l1.length : Int) t275 _ A8.out).mono ?_); rintro e w' ⟨rfl, ⟨nd, rfl⟩⟩; refine ⟨_, rfl, ?_⟩) | ((with_reducible refine gate_callee (f := 42) rfl ?_); refine goesL_ (some 33) rfl rfl Try.func42 (by kernel_rfl) rfl #[.int .i64 (wrap64 (x9_1 - t275)), .int .i64 (l1.length : Int)] rfl (by (try simp only [List.map_toArray, List.map_cons, List.map_nil]); first | done | rfl | (simp only [List.length_drop, List.length_take]; rfl)) ?_; (with_reducible refine (fringeref11_at.calls (wrap64 (x9_1 - t275)) (l1.length : Int) t276 _ A9.out).mono ?_); rintro e w' ⟨rfl, ⟨nd, rfl⟩⟩; refine ⟨_, rfl, ?_⟩; have p277 : 0 ≤ (t276 : Int) := of_decide_eq_true (by first | (with_reducible assumption) | assumption); have q277 : t276 < (l1.length : Int) := of_decide_eq_true (by first | (with_reducible assumption) | assumption); obtain ⟨ad277, e277, hx277_0⟩ := Kd.at_int HR1.out t276 p277 q277; cases e277; replace hx277_0 := (HB.out.cell (World.block_lt_of_cell? w _ hx277_0)).trans hx277_0; replace p277 := eq_true p277; replace q277 := eq_true q277) | ((with_reducible refine gate_builtin (b := .append) (xs := #[.tmp 23, .tmp 36]) rfl ?_); at_builtin; refine Kd.R_append (Kd.int .i64) (w0 := w) w.heap.size rfl (.tmp 23) (.tmp 36) 22 2 (.int .i64 0) 8 rfl Try.underlying22 info2 rfl (by decide) (by omega) u8 x8_1 (rd l1 t276) [.int .i64 (rd l1 t276)] (fun _ => True) (fun _ => False) rfl rfl ?aP (fun _ hk => hk.elim) ?aF ?aO ?aB ?aS ?aL ?_; (case aP => exact rfl); (case aB => exact (by repeat (first | (with_reducible first | exact HB.out | apply below_alloc | apply pw_below_drewN | apply below_drew1) | exact HB.out))); (case aF => exact (fun _ _ => trivial)); (case aO => exact (by (with_reducible repeat (first | apply Kd.R_alloc | apply Kd.R_drewN | apply Kd.R_drew)); exact HO_8.out)); (case aS => exact (below_size (by repeat (first | (with_reducible first | exact HB.out | apply below_alloc | apply pw_below_drewN | apply below_drew1) | exact HB.out)))); (case aL => have := LMc12.out; omega); intro v279 w13 ho hb hg hat; rw [← Ny278.out] at ho; have n0_ := Aside0.mk (hb); have n1_ := Aside0.mk (ho); clear HB; clear HO_8; have HB := n0_; have HO280 := n1_; clear n0_ n1_; clear ho hb hg hat))
      go_roundg k1
      case measure => have := HK1.out; omega
      case rel => exact ⟨(y278), (wrap64 (x9_1 + 1)), (by first | rfl | (simp; done) | (simp [*]; done) | (simp [i64_w]; done)), H', ⟨by have := HK1.out; omega⟩, ⟨by (with_reducible repeat (first | apply Kd.R_alloc | apply Kd.R_drewN | apply Kd.R_drew)); exact HO280.out⟩, ⟨by repeat (first | (with_reducible first | exact HB.out | apply below_alloc | apply pw_below_drewN | apply below_drew1) | exact HB.out)⟩⟩

/-! ### ring_Pow: function 43 -/
def ring_Pow.f (k : Nat) (a0 : Int) (a1 : Int) (a2 : Int) : Option (Int × Int) := (ring_both.f k a0 a1).bind fun t281 => (if t281 = 0 then (if a2 < 0 then (some (0, 2)) else ((ring_power.f k a0 a1 a2).bind fun t282 => (some (t282, 0)))) else (some (0, t281)))
theorem ring_Pow.mono : ∀ a0 a1 a2 k, LeO (ring_Pow.f k a0 a1 a2) (ring_Pow.f (k + 1) a0 a1 a2) := by
  intro a0 a1 a2 k
  unfold ring_Pow.f
  repeat' first
      | (with_reducible exact ring_both.mono _ _ _)
      | (with_reducible exact ring_power.mono _ _ _ _)
      | (with_reducible exact LeO.refl _)
      | (with_reducible exact LeO.none _)
      | (with_reducible refine LeO.ite ?_ ?_)
      | (with_reducible refine LeO.bind ?_ (fun _ => ?_))
      | exact ring_both.mono _ _ _
      | exact ring_power.mono _ _ _ _
      | exact LeO.none _
      | refine LeO.ite ?_ ?_
      | refine LeO.bind ?_ (fun _ => ?_)
set_option maxHeartbeats 8000000 in
set_option maxRecDepth 100000 in
theorem ring_Pow.calls (k : Nat) (a0 : Int) (a1 : Int) (a2 : Int) (r1 : Int) (r2 : Int) (w : World) (h : ring_Pow.f k a0 a1 a2 = some (r1, r2)) :
    Calls Try.prog 43 #[.int .i64 a0, .int .i64 a1, .int .i64 a2] w fun e w' => e = .returned (.tuple #[.int .i64 r1, .int .i64 r2]) ∧ Drawn0 w w' := by
  have H : ((ring_both.f k a0 a1).bind fun t281 => (if t281 = 0 then (if a2 < 0 then (some (0, 2)) else ((ring_power.f k a0 a1 a2).bind fun t282 => (some (t282, 0)))) else (some (0, t281)))) = some (r1, r2) := h
  clear h
  replace H := Option.bind_eq_some_iff.mp H
  obtain ⟨t281, A40, H⟩ := H
  replace H : (if t281 = 0 then (if a2 < 0 then (some (0, 2)) else ((ring_power.f k a0 a1 a2).bind fun t282 => (some (t282, 0)))) else (some (0, t281))) = some (r1, r2) := H
  have A4 := Aside0.mk A40
  clear A40
  by_cases c5 : t281 = 0
  rotate_left
  · rw [if_neg c5] at H
    have c5b0 : (t281 == 0) = false := beq_eq_false_iff_ne.mpr c5
    have c5b1 : (t281 != 0) = true := bne_iff_ne.mpr c5
    simp only [Option.some.injEq, Prod.mk.injEq] at H
    obtain ⟨rfl, rfl⟩ := H
    go_enter Try.func43, Try.ntmps43
    go_wp2_with (first | ((with_reducible refine gate_callee (f := 54) rfl ?_); refine goesL_ (some 11) rfl rfl Try.func54 (by kernel_rfl) rfl #[.int .i64 a0, .int .i64 a1] rfl (by (try simp only [List.map_toArray, List.map_cons, List.map_nil]); first | done | rfl | (simp only [List.length_drop, List.length_take]; rfl)) ?_; (with_reducible refine (ring_both.calls k a0 a1 t281 _ A4.out).mono ?_); rintro e w' ⟨rfl, ⟨nd, rfl⟩⟩; refine ⟨_, rfl, ?_⟩))
    go_ret2
    exact ⟨by first | rfl | (simp; done) | (simp [*]; done) | (simp [i64_w]; done), by repeat (first | exact Drawn0.refl _ | apply Drawn0.step)⟩
  rw [if_pos c5] at H
  have c5b0 : (t281 == 0) = true := beq_iff_eq.mpr c5
  have c5b1 : (t281 != 0) = false := bne_eq_false_iff_eq.mpr c5
  clear c5
  by_cases c6 : a2 < 0
  · rw [if_pos c6] at H
    have c6b0 : decide (a2 < 0) = true := decide_eq_true c6
    clear c6
    simp only [Option.some.injEq, Prod.mk.injEq] at H
    obtain ⟨rfl, rfl⟩ := H
    go_enter Try.func43, Try.ntmps43
    go_wp2_with (first | ((with_reducible refine gate_callee (f := 54) rfl ?_); refine goesL_ (some 11) rfl rfl Try.func54 (by kernel_rfl) rfl #[.int .i64 a0, .int .i64 a1] rfl (by (try simp only [List.map_toArray, List.map_cons, List.map_nil]); first | done | rfl | (simp only [List.length_drop, List.length_take]; rfl)) ?_; (with_reducible refine (ring_both.calls k a0 a1 t281 _ A4.out).mono ?_); rintro e w' ⟨rfl, ⟨nd, rfl⟩⟩; refine ⟨_, rfl, ?_⟩))
    go_ret2
    exact ⟨by first | rfl | (simp; done) | (simp [*]; done) | (simp [i64_w]; done), by repeat (first | exact Drawn0.refl _ | apply Drawn0.step)⟩
  rw [if_neg c6] at H
  have c6b0 : decide (a2 < 0) = false := decide_eq_false c6
  clear c6
  replace H := Option.bind_eq_some_iff.mp H
  obtain ⟨t282, A70, H⟩ := H
  replace H : (some (t282, 0)) = some (r1, r2) := H
  have A7 := Aside0.mk A70
  clear A70
  simp only [Option.some.injEq, Prod.mk.injEq] at H
  obtain ⟨rfl, rfl⟩ := H
  go_enter Try.func43, Try.ntmps43
  go_wp2_with (first | ((with_reducible refine gate_callee (f := 54) rfl ?_); refine goesL_ (some 11) rfl rfl Try.func54 (by kernel_rfl) rfl #[.int .i64 a0, .int .i64 a1] rfl (by (try simp only [List.map_toArray, List.map_cons, List.map_nil]); first | done | rfl | (simp only [List.length_drop, List.length_take]; rfl)) ?_; (with_reducible refine (ring_both.calls k a0 a1 t281 _ A4.out).mono ?_); rintro e w' ⟨rfl, ⟨nd, rfl⟩⟩; refine ⟨_, rfl, ?_⟩) | ((with_reducible refine gate_callee (f := 55) rfl ?_); refine goesL_ (some 20) rfl rfl Try.func55 (by kernel_rfl) rfl #[.int .i64 a0, .int .i64 a1, .int .i64 a2] rfl (by (try simp only [List.map_toArray, List.map_cons, List.map_nil]); first | done | rfl | (simp only [List.length_drop, List.length_take]; rfl)) ?_; (with_reducible refine (ring_power.calls k a0 a1 a2 t282 _ A7.out).mono ?_); rintro e w' ⟨rfl, ⟨nd, rfl⟩⟩; refine ⟨_, rfl, ?_⟩))
  go_ret2
  exact ⟨by first | rfl | (simp; done) | (simp [*]; done) | (simp [i64_w]; done), by repeat (first | exact Drawn0.refl _ | apply Drawn0.step)⟩

/-! ### slices_Clone_int64_int64: function 44 -/
def slices_Clone_int64_int64.f (l0 : List Int) : Option (List Int) := (some (([] : List Int) : List Int)).bind fun y283 => (if y283.length + l0.length < 17592186044416 then (some (y283 ++ l0)) else (none))
set_option maxHeartbeats 8000000 in
set_option maxRecDepth 100000 in
theorem slices_Clone_int64_int64.calls (A0 : Option Addr) (c0 : Nat) (l0 : List Int) (r : List Int) (w : World) (hr0 : Kd.C (Kd.int .i64) w A0 l0.length l0) (hc0 : l0.length ≤ c0) (h : slices_Clone_int64_int64.f l0 = some r) :
    Calls Try.prog 44 #[.slice A0 l0.length c0] w fun e w' => ∃ v0_ : Value, e = .returned (v0_) ∧ Kd.R (Kd.int .i64) 2 w' w.heap.size (fun _ => True) v0_ r ∧ Below w.heap.size w w' := by
  have HR0 := Aside0.mk hr0
  have HC0 := Aside0.mk hc0
  clear hr0 hc0
  have HB := Aside0.mk (Below.refl w.heap.size w)
  have H : ((some (([] : List Int) : List Int)).bind fun y283 => (if y283.length + l0.length < 17592186044416 then (some (y283 ++ l0)) else (none))) = some r := h
  clear h
  obtain ⟨y283, hy283⟩ : ∃ y_ : List Int, y_ = (([] : List Int)) := ⟨_, rfl⟩
  replace H : (if y283.length + l0.length < 17592186044416 then (some (y283 ++ l0)) else (none)) = some r := by first | (rw [hy283]; with_reducible exact H) | (have H2_ := (Option.bind_some _ _).symm.trans H; rw [hy283]; with_reducible exact H2_) | (have H2_ := (Option.bind_some _ _).symm.trans H; with_reducible exact H2_) | with_reducible exact H | (rw [hy283]; exact H) | exact H
  have Ny283 := Aside0.mk hy283
  clear hy283
  by_cases c2 : y283.length + l0.length < 17592186044416
  rotate_left
  · rw [if_neg c2] at H
    exact absurd H (by simp)
  rw [if_pos c2] at H
  have LMc2 := Aside0.mk c2
  clear c2
  obtain ⟨y286, hy286⟩ : ∃ y_ : List Int, y_ = (y283 ++ l0) := ⟨_, rfl⟩
  replace H : (some y286) = some r := by first | (rw [hy286]; with_reducible exact H) | (have H2_ := (Option.bind_some _ _).symm.trans H; rw [hy286]; with_reducible exact H2_) | (have H2_ := (Option.bind_some _ _).symm.trans H; with_reducible exact H2_) | with_reducible exact H | (rw [hy286]; exact H) | exact H
  have Ny286 := Aside0.mk hy286
  clear hy286
  obtain rfl := Option.some.inj H
  rcases A0 with _ | adA
  · have hl0 : l0 = [] := List.eq_nil_of_length_eq_zero (by
      obtain ⟨_, _, hh⟩ := HR0.out
      rcases Nat.eq_zero_or_pos l0.length with z | z
      · exact z
      · obtain ⟨ad, e, _⟩ := hh z; cases e)
    have hr_ : y286 = [] := by rw [Ny286.out, Ny283.out, hl0]; rfl
    have HR_ := Aside0.mk hr_
    clear hl0 hr_
    have qT : ∀ w' n c, (binOp .eql 22 (.slice none n c) (.slice none 0 0)).run Try.prog w' = .ok (.bool true) w' := fun w' n c => Go.Lib.run_eql_slice_nil w' 22 2 none n c 0 0 Try.underlying22
    go_enter Try.func44, Try.ntmps44
    go_wp2
    go_ret
    exact ⟨_, rfl, by rw [HR_.out]; exact Kd.R_nil _ _ _ _ _, Below.refl _ _⟩
  · have qT : ∀ w' n c, (binOp .eql 22 (.slice (some adA) n c) (.slice none 0 0)).run Try.prog w' = .ok (.bool false) w' := fun w' n c => Go.Lib.run_eql_slice_nil w' 22 2 (some adA) n c 0 0 Try.underlying22
    go_enter Try.func44, Try.ntmps44
    go_wp2_with (first | ((with_reducible refine gate_dst (N := 5) rfl ?_); refine Kd.R_lit (Kd.int .i64) _ 2 ?hg (N := 5) ?hd (xs := ([] : List Int)) (inner := []) (ok := fun _ => True) (okp := fun _ => True) ?hr ?hp (fun _ hk => hk) trivial (Below.refl _ _) (Nat.le_refl _) (by simp) ?_; (case hd => rfl); (case hg => rfl); (case hr => first | (go_simp; done) | (go_simp; rfl)); (case hp => exact (Reps.none _ _)); intro v284 w3 ho4 hb hg_ hnew_; clear hg_ hnew_; (first | rw [← Ny283.out] at ho4 | (simp only [Int.reduceToNat] at ho4; rw [← Ny283.out] at ho4)); have n0_ := Aside0.mk (Kd.R_lower ho4 (below_size (by repeat (first | (with_reducible first | exact HB.out | apply below_alloc | apply pw_below_drewN | apply below_drew1) | exact HB.out)))); have n1_ := Aside0.mk (below_step (by repeat (first | (with_reducible first | exact HB.out | apply below_alloc | apply pw_below_drewN | apply below_drew1) | exact HB.out)) hb); clear HB; have HO285 := n0_; have HB := n1_; clear n0_ n1_; clear hb ho4) | ((with_reducible refine gate_builtin (b := .append) (xs := #[.tmp 5, .tmp 6]) rfl ?_); at_builtin; refine Kd.R_append_rows (Kd.int .i64) (w0 := w) w.heap.size rfl (.tmp 5) (.tmp 6) 22 2 (.int .i64 0) 8 rfl Try.underlying22 info2 rfl (by decide) (by omega) v284 y283 l0 _ _ _ (fun _ => True) (fun _ => False) rfl rfl ?aO ?aR (fun _ _ h => h) (fun _ h => h.elim) ?aF ?aB ?aS ?aL ?_; (case aR => repeat (first | exact (Kd.C_below HR0.out HB.out) | (with_reducible refine Kd.C_alloc ?_ _) | (with_reducible refine Kd.C_drewN ?_ _) | (with_reducible refine Kd.C_drew ?_))); (case aB => exact (by repeat (first | (with_reducible first | exact HB.out | apply below_alloc | apply pw_below_drewN | apply below_drew1) | exact HB.out))); (case aF => exact (fun _ _ => trivial)); (case aO => exact (by (with_reducible repeat (first | apply Kd.R_alloc | apply Kd.R_drewN | apply Kd.R_drew)); exact HO285.out)); (case aS => exact (below_size (by repeat (first | (with_reducible first | exact HB.out | apply below_alloc | apply pw_below_drewN | apply below_drew1) | exact HB.out)))); (case aL => have := LMc2.out; omega); intro v287 w5 ho hb hg hat; rw [← Ny286.out] at ho; have n0_ := Aside0.mk (hb); have n1_ := Aside0.mk (ho); clear HB; clear HO285; have HB := n0_; have HO288 := n1_; clear n0_ n1_; clear ho hb hg hat))
    go_ret
    exact ⟨_, by first | rfl | (simp [errW_none, errW_some] <;> rfl) | (simp [*, errW_none, errW_some] <;> rfl), by (with_reducible repeat (first | apply Kd.R_alloc | apply Kd.R_drewN | apply Kd.R_drew)); exact HO288.out, by repeat (first | (with_reducible first | exact HB.out | apply below_alloc | apply pw_below_drewN | apply below_drew1) | exact HB.out)⟩

end Go.Proofs.Ytbeidonfmeengaa.PAll
