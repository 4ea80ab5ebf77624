-- Written by a program of this session, after the kit's print
import Derived.Test.YtpooejjgaobcaaaPAllx0
import Derived.Test.YtpooejjgaobcaaaPAllx1
import Derived.Test.YtpooejjgaobcaaaPAllx13
import Derived.Test.YtpooejjgaobcaaaPAllx19
import Derived.Test.YtpooejjgaobcaaaPAllx32
import Derived.Test.YtpooejjgaobcaaaPAllx34
namespace Go.Proofs.Ytpooejjgaobcaaa.PAll
open Go.RowKit Go.Proofs.YtpooejjgaobcaaaW.PrintWords Go.Proofs.YtpooejjgaobcaaaW.PrintLast Go.Proofs.YtpooejjgaobcaaaW.PrintMore
attribute [local go_sem] max2_int min2_int max_two min_two max_three min_three max_four min_four   -- for this text's walks alone
set_option linter.unusedVariables false
set_option linter.unusedSimpArgs false

attribute [local go_sem high] eqA23
/-! ### fringelaw20_SearchTurns: function 7 -/
mutual
def fringelaw20_SearchTurns.j0 : Nat → List Int → List Int → Int → Int → Int → Bool → Bool → Option (Bool)
  | 0, _, _, _, _, _, _, _ => none
  | k + 1, x0, x1, x2, x3, x4, x11, x50 => if x50 = true then (some x11) else (fringelaw20_SearchTurns.l0 k x0 x1 x2 x3 x4 x11 ([] : List Int) 0)
def fringelaw20_SearchTurns.l0 : Nat → List Int → List Int → Int → Int → Int → Bool → List Int → Int → Option (Bool)
  | 0, _, _, _, _, _, _, _, _ => none
  | k + 1, x0, x1, x2, x3, x4, x11, x12, x13 => if x13 < (x0.length : Int) then (if x4 = 0 then (none) else (if (Int.tmod (wrap64 (Int.tdiv x13 x4)) 2) = 1 then (if 0 ≤ x13 then (if x12.length < 17592186044416 then (fringelaw20_SearchTurns.l0 k x0 x1 x2 x3 x4 x11 (x12 ++ [wrap64 (-(rd x0 x13))]) (wrap64 (x13 + 1))) else (none)) else (none)) else (if 0 ≤ x13 then (if x12.length < 17592186044416 then (fringelaw20_SearchTurns.l0 k x0 x1 x2 x3 x4 x11 (x12 ++ [rd x0 x13]) (wrap64 (x13 + 1))) else (none)) else (none)))) else ((search_At.f k x0 x1 x2 (Int.tmod (wrap64 (x3 + 2)) 4) x4).bind fun bt365 => ((search_At.f k x12 x1 x2 x3 x4).bind fun bt372 => ((search_At.f k x0 x1 x2 x3 x4).bind fun bt379 => ((search_Stop.f k x0 x3 x4).bind fun bt386 => (if bt365.2.2.2.2.2 = 0 then (if bt372.2.2.2.2.2 = 0 then (if bt379.2.2.2.2.2 = 0 then (if bt386.2 = 0 then (if (!(bt365.2.2.1 == bt372.2.2.1) || (!(bt365.2.2.2.1 == bt372.2.2.2.1))) = true then (fringelaw20_SearchTurns.j2 k x0 x1 x2 x11 bt386.1 true bt379.1 bt379.2.1 bt379.2.2.1 bt379.2.2.2.1 bt379.2.2.2.2.1) else (if bt365.2.2.2.2.1 = bt372.2.2.2.2.1 then (fringelaw20_SearchTurns.j2 k x0 x1 x2 x11 bt386.1 ((bt386.1.length : Int) != (x0.length : Int)) bt379.1 bt379.2.1 bt379.2.2.1 bt379.2.2.2.1 bt379.2.2.2.2.1) else (fringelaw20_SearchTurns.j2 k x0 x1 x2 x11 bt386.1 true bt379.1 bt379.2.1 bt379.2.2.1 bt379.2.2.2.1 bt379.2.2.2.2.1))) else (fringelaw20_SearchTurns.j2 k x0 x1 x2 x11 bt386.1 true bt379.1 bt379.2.1 bt379.2.2.1 bt379.2.2.2.1 bt379.2.2.2.2.1)) else (fringelaw20_SearchTurns.j2 k x0 x1 x2 x11 bt386.1 true bt379.1 bt379.2.1 bt379.2.2.1 bt379.2.2.2.1 bt379.2.2.2.2.1)) else (fringelaw20_SearchTurns.j2 k x0 x1 x2 x11 bt386.1 true bt379.1 bt379.2.1 bt379.2.2.1 bt379.2.2.2.1 bt379.2.2.2.2.1)) else (fringelaw20_SearchTurns.j2 k x0 x1 x2 x11 bt386.1 true bt379.1 bt379.2.1 bt379.2.2.1 bt379.2.2.2.1 bt379.2.2.2.2.1))))))
def fringelaw20_SearchTurns.j2 : Nat → List Int → List Int → Int → Bool → List (S23) → Bool → Int → Int → Int → Int → Int → Option (Bool)
  | 0, _, _, _, _, _, _, _, _, _, _, _ => none
  | k + 1, x0, x1, x2, x11, x20, x148, x386000, x386001, x386002, x386003, x386004 => if x148 = true then (some false) else (fringelaw20_SearchTurns.l1 k x0 x1 x2 x11 x20 0 x386000 x386001 x386002 x386003 x386004 0 0)
def fringelaw20_SearchTurns.l1 : Nat → List Int → List Int → Int → Bool → List (S23) → Int → Int → Int → Int → Int → Int → Int → Int → Option (Bool)
  | 0, _, _, _, _, _, _, _, _, _, _, _, _, _ => none
  | k + 1, x0, x1, x2, x11, x20, x23, x386000, x386001, x386002, x386003, x386004, x391000, x391001 => if x23 < (x0.length : Int) then (if (wrap64 (x23 + x2)) ≥ 0 then (if (wrap64 (x23 + x2)) < (x1.length : Int) then (if 0 ≤ x23 then (if x23 < (x20.length : Int) then (if 0 ≤ (wrap64 (x23 + x2)) then (fringelaw20_SearchTurns.l1 k x0 x1 x2 x11 x20 (wrap64 (x23 + 1)) x386000 x386001 x386002 x386003 x386004 (wrap64 (x391000 + (wrap64 (((rd_T23 x20 x23).f0) * (rd x1 (wrap64 (x23 + x2))))))) (wrap64 (x391001 + (wrap64 (((rd_T23 x20 x23).f1) * (rd x1 (wrap64 (x23 + x2)))))))) else (none)) else (none)) else (none)) else (fringelaw20_SearchTurns.l1 k x0 x1 x2 x11 x20 (wrap64 (x23 + 1)) x386000 x386001 x386002 x386003 x386004 x391000 x391001)) else (fringelaw20_SearchTurns.l1 k x0 x1 x2 x11 x20 (wrap64 (x23 + 1)) x386000 x386001 x386002 x386003 x386004 x391000 x391001)) else (if x11 = true then (some (x391000 == x386002 && (x391001 == x386003))) else (some false))
end
def fringelaw20_SearchTurns.f (k : Nat) (l0 : List Int) (l1 : List Int) (a2 : Int) (a3 : Int) (a4 : Int) : Option (Bool) := (fringelaw20_alive.f).bind fun t355 => ((fringelaw20_fit.f k l0 l1 a4).bind fun t356 => (if t356 = true then (if a2 < (-32) then (fringelaw20_SearchTurns.j0 k l0 l1 a2 a3 a4 t355 true) else (if a2 > 32 then (fringelaw20_SearchTurns.j0 k l0 l1 a2 a3 a4 t355 true) else (if a3 < 0 then (fringelaw20_SearchTurns.j0 k l0 l1 a2 a3 a4 t355 true) else (if a3 > 3 then (fringelaw20_SearchTurns.j0 k l0 l1 a2 a3 a4 t355 true) else (fringelaw20_SearchTurns.j0 k l0 l1 a2 a3 a4 t355 (!t355)))))) else (fringelaw20_SearchTurns.j0 k l0 l1 a2 a3 a4 t355 true)))
theorem fringelaw20_SearchTurns.mono_l : ∀ k, (∀ y0 y1 y2 y3 y4 y5 y6, LeO (fringelaw20_SearchTurns.j0 k y0 y1 y2 y3 y4 y5 y6) (fringelaw20_SearchTurns.j0 (k + 1) y0 y1 y2 y3 y4 y5 y6)) ∧ (∀ y0 y1 y2 y3 y4 y5 y6 y7, LeO (fringelaw20_SearchTurns.l0 k y0 y1 y2 y3 y4 y5 y6 y7) (fringelaw20_SearchTurns.l0 (k + 1) y0 y1 y2 y3 y4 y5 y6 y7)) ∧ (∀ y0 y1 y2 y3 y4 y5 y6 y7 y8 y9 y10, LeO (fringelaw20_SearchTurns.j2 k y0 y1 y2 y3 y4 y5 y6 y7 y8 y9 y10) (fringelaw20_SearchTurns.j2 (k + 1) y0 y1 y2 y3 y4 y5 y6 y7 y8 y9 y10)) ∧ (∀ y0 y1 y2 y3 y4 y5 y6 y7 y8 y9 y10 y11 y12, LeO (fringelaw20_SearchTurns.l1 k y0 y1 y2 y3 y4 y5 y6 y7 y8 y9 y10 y11 y12) (fringelaw20_SearchTurns.l1 (k + 1) y0 y1 y2 y3 y4 y5 y6 y7 y8 y9 y10 y11 y12))
  | 0 => ⟨fun _ _ _ _ _ _ _ r h => by simp [fringelaw20_SearchTurns.j0] at h, fun _ _ _ _ _ _ _ _ r h => by simp [fringelaw20_SearchTurns.l0] at h, fun _ _ _ _ _ _ _ _ _ _ _ r h => by simp [fringelaw20_SearchTurns.j2] at h, fun _ _ _ _ _ _ _ _ _ _ _ _ _ r h => by simp [fringelaw20_SearchTurns.l1] at h⟩
  | k + 1 => by
    obtain ⟨ih0, ih1, ih2, ih3⟩ := fringelaw20_SearchTurns.mono_l k
    refine ⟨?_, ?_, ?_, ?_⟩
    · intro y0 y1 y2 y3 y4 y5 y6
      unfold fringelaw20_SearchTurns.j0
      repeat' first
      | (with_reducible exact ih0 _ _ _ _ _ _ _)
      | (with_reducible exact ih1 _ _ _ _ _ _ _ _)
      | (with_reducible exact ih2 _ _ _ _ _ _ _ _ _ _ _)
      | (with_reducible exact ih3 _ _ _ _ _ _ _ _ _ _ _ _ _)
      | (with_reducible exact fringelaw20_fit.mono _ _ _ _)
      | (with_reducible exact search_At.mono _ _ _ _ _ _)
      | (with_reducible exact search_Stop.mono _ _ _ _)
      | (with_reducible exact LeO.refl _)
      | (with_reducible exact LeO.none _)
      | (with_reducible refine LeO.ite ?_ ?_)
      | (with_reducible refine LeO.bind ?_ (fun _ => ?_))
      | exact ih0 _ _ _ _ _ _ _
      | exact ih1 _ _ _ _ _ _ _ _
      | exact ih2 _ _ _ _ _ _ _ _ _ _ _
      | exact ih3 _ _ _ _ _ _ _ _ _ _ _ _ _
      | exact fringelaw20_fit.mono _ _ _ _
      | exact search_At.mono _ _ _ _ _ _
      | exact search_Stop.mono _ _ _ _
      | exact LeO.none _
      | refine LeO.ite ?_ ?_
      | refine LeO.bind ?_ (fun _ => ?_)
    · intro y0 y1 y2 y3 y4 y5 y6 y7
      unfold fringelaw20_SearchTurns.l0
      repeat' first
      | (with_reducible exact ih0 _ _ _ _ _ _ _)
      | (with_reducible exact ih1 _ _ _ _ _ _ _ _)
      | (with_reducible exact ih2 _ _ _ _ _ _ _ _ _ _ _)
      | (with_reducible exact ih3 _ _ _ _ _ _ _ _ _ _ _ _ _)
      | (with_reducible exact fringelaw20_fit.mono _ _ _ _)
      | (with_reducible exact search_At.mono _ _ _ _ _ _)
      | (with_reducible exact search_Stop.mono _ _ _ _)
      | (with_reducible exact LeO.refl _)
      | (with_reducible exact LeO.none _)
      | (with_reducible refine LeO.ite ?_ ?_)
      | (with_reducible refine LeO.bind ?_ (fun _ => ?_))
      | exact ih0 _ _ _ _ _ _ _
      | exact ih1 _ _ _ _ _ _ _ _
      | exact ih2 _ _ _ _ _ _ _ _ _ _ _
      | exact ih3 _ _ _ _ _ _ _ _ _ _ _ _ _
      | exact fringelaw20_fit.mono _ _ _ _
      | exact search_At.mono _ _ _ _ _ _
      | exact search_Stop.mono _ _ _ _
      | exact LeO.none _
      | refine LeO.ite ?_ ?_
      | refine LeO.bind ?_ (fun _ => ?_)
    · intro y0 y1 y2 y3 y4 y5 y6 y7 y8 y9 y10
      unfold fringelaw20_SearchTurns.j2
      repeat' first
      | (with_reducible exact ih0 _ _ _ _ _ _ _)
      | (with_reducible exact ih1 _ _ _ _ _ _ _ _)
      | (with_reducible exact ih2 _ _ _ _ _ _ _ _ _ _ _)
      | (with_reducible exact ih3 _ _ _ _ _ _ _ _ _ _ _ _ _)
      | (with_reducible exact fringelaw20_fit.mono _ _ _ _)
      | (with_reducible exact search_At.mono _ _ _ _ _ _)
      | (with_reducible exact search_Stop.mono _ _ _ _)
      | (with_reducible exact LeO.refl _)
      | (with_reducible exact LeO.none _)
      | (with_reducible refine LeO.ite ?_ ?_)
      | (with_reducible refine LeO.bind ?_ (fun _ => ?_))
      | exact ih0 _ _ _ _ _ _ _
      | exact ih1 _ _ _ _ _ _ _ _
      | exact ih2 _ _ _ _ _ _ _ _ _ _ _
      | exact ih3 _ _ _ _ _ _ _ _ _ _ _ _ _
      | exact fringelaw20_fit.mono _ _ _ _
      | exact search_At.mono _ _ _ _ _ _
      | exact search_Stop.mono _ _ _ _
      | exact LeO.none _
      | refine LeO.ite ?_ ?_
      | refine LeO.bind ?_ (fun _ => ?_)
    · intro y0 y1 y2 y3 y4 y5 y6 y7 y8 y9 y10 y11 y12
      unfold fringelaw20_SearchTurns.l1
      repeat' first
      | (with_reducible exact ih0 _ _ _ _ _ _ _)
      | (with_reducible exact ih1 _ _ _ _ _ _ _ _)
      | (with_reducible exact ih2 _ _ _ _ _ _ _ _ _ _ _)
      | (with_reducible exact ih3 _ _ _ _ _ _ _ _ _ _ _ _ _)
      | (with_reducible exact fringelaw20_fit.mono _ _ _ _)
      | (with_reducible exact search_At.mono _ _ _ _ _ _)
      | (with_reducible exact search_Stop.mono _ _ _ _)
      | (with_reducible exact LeO.refl _)
      | (with_reducible exact LeO.none _)
      | (with_reducible refine LeO.ite ?_ ?_)
      | (with_reducible refine LeO.bind ?_ (fun _ => ?_))
      | exact ih0 _ _ _ _ _ _ _
      | exact ih1 _ _ _ _ _ _ _ _
      | exact ih2 _ _ _ _ _ _ _ _ _ _ _
      | exact ih3 _ _ _ _ _ _ _ _ _ _ _ _ _
      | exact fringelaw20_fit.mono _ _ _ _
      | exact search_At.mono _ _ _ _ _ _
      | exact search_Stop.mono _ _ _ _
      | exact LeO.none _
      | refine LeO.ite ?_ ?_
      | refine LeO.bind ?_ (fun _ => ?_)
theorem fringelaw20_SearchTurns.mono : ∀ a0 a1 a2 a3 a4 k, LeO (fringelaw20_SearchTurns.f k a0 a1 a2 a3 a4) (fringelaw20_SearchTurns.f (k + 1) a0 a1 a2 a3 a4) := by
  intro a0 a1 a2 a3 a4 k
  obtain ⟨ih0, ih1, ih2, ih3⟩ := fringelaw20_SearchTurns.mono_l k
  unfold fringelaw20_SearchTurns.f
  repeat' first
      | (with_reducible exact ih0 _ _ _ _ _ _ _)
      | (with_reducible exact ih1 _ _ _ _ _ _ _ _)
      | (with_reducible exact ih2 _ _ _ _ _ _ _ _ _ _ _)
      | (with_reducible exact ih3 _ _ _ _ _ _ _ _ _ _ _ _ _)
      | (with_reducible exact fringelaw20_fit.mono _ _ _ _)
      | (with_reducible exact search_At.mono _ _ _ _ _ _)
      | (with_reducible exact search_Stop.mono _ _ _ _)
      | (with_reducible exact LeO.refl _)
      | (with_reducible exact LeO.none _)
      | (with_reducible refine LeO.ite ?_ ?_)
      | (with_reducible refine LeO.bind ?_ (fun _ => ?_))
      | exact ih0 _ _ _ _ _ _ _
      | exact ih1 _ _ _ _ _ _ _ _
      | exact ih2 _ _ _ _ _ _ _ _ _ _ _
      | exact ih3 _ _ _ _ _ _ _ _ _ _ _ _ _
      | exact fringelaw20_fit.mono _ _ _ _
      | exact search_At.mono _ _ _ _ _ _
      | exact search_Stop.mono _ _ _ _
      | exact LeO.none _
      | refine LeO.ite ?_ ?_
      | refine LeO.bind ?_ (fun _ => ?_)
def fringelaw20_SearchTurns.T23 : Bool × List (List Nat × List Nat) := (true, [([], []), ([0], [0]), ([], []), ([], []), ([2, 3], [2, 3]), ([4], [4]), ([5], [5]), ([], []), ([], []), ([7, 8], [7, 8]), ([9], [9]), ([6, 10], [6, 10]), ([1, 11], [1, 11]), ([0, 1, 2, 3, 4, 5, 6, 7, 8, 9, 10, 11, 12], []), ([13, 12, 0, 1, 2, 3, 4, 5, 6, 7, 8, 9, 10, 11, 12], [12, 13])])
def fringelaw20_SearchTurns.B23 : List Nat := [0, 1, 0, 0, 12, 28, 60, 0, 0, 384, 896, 2044, 4095, 8191, 16383]
theorem fringelaw20_SearchTurns.tab23 : rtab .any (opsOf Try.f7 23) = fringelaw20_SearchTurns.T23 := by kernel_rfl
theorem fringelaw20_SearchTurns.bits23 : waitsOk fringelaw20_SearchTurns.T23.2 fringelaw20_SearchTurns.B23 = true := by kernel_rfl
def fringelaw20_SearchTurns.T24 : Bool × List (List Nat × List Nat) := (true, [([], []), ([0], [0]), ([], []), ([], []), ([2, 3], [2, 3]), ([4], [4]), ([5], [5]), ([], []), ([], []), ([7, 8], [7, 8]), ([9], [9]), ([6, 10], [6, 10]), ([1, 11], [1, 11]), ([0, 1, 2, 3, 4, 5, 6, 7, 8, 9, 10, 11, 12], []), ([13, 12, 0, 1, 2, 3, 4, 5, 6, 7, 8, 9, 10, 11, 12], [12, 13])])
def fringelaw20_SearchTurns.B24 : List Nat := [0, 1, 0, 0, 12, 28, 60, 0, 0, 384, 896, 2044, 4095, 8191, 16383]
theorem fringelaw20_SearchTurns.tab24 : rtab .any (opsOf Try.f7 24) = fringelaw20_SearchTurns.T24 := by kernel_rfl
theorem fringelaw20_SearchTurns.bits24 : waitsOk fringelaw20_SearchTurns.T24.2 fringelaw20_SearchTurns.B24 = true := by kernel_rfl
set_option maxHeartbeats 8000000 in
set_option maxRecDepth 100000 in
theorem fringelaw20_SearchTurns.calls (k : Nat) (A0 : Option Addr) (c0 : Nat) (l0 : List Int) (A1 : Option Addr) (c1 : Nat) (l1 : List Int) (a2 : Int) (a3 : Int) (a4 : Int) (r : Bool) (w : World) (hr0 : Kd.C (Kd.int .i64) w A0 l0.length l0) (hc0 : l0.length ≤ c0) (hr1 : Kd.C (Kd.int .i64) w A1 l1.length l1) (hc1 : l1.length ≤ c1) (hrt : r = true) (h : fringelaw20_SearchTurns.f k l0 l1 a2 a3 a4 = some r) :
    Calls Try.prog 7 #[.slice A0 l0.length c0, .slice A1 l1.length c1, .int .i64 a2, .int .i64 a3, .int .i64 a4] w fun e w' => e = .returned (.bool r) ∧ Below w.heap.size w w' := by
  have hu32 := Try.underlying32
  have hu23 := Try.underlying23
  have HR0 := Aside0.mk hr0
  have HC0 := Aside0.mk hc0
  clear hr0 hc0
  have HR1 := Aside0.mk hr1
  have HC1 := Aside0.mk hc1
  clear hr1 hc1
  have HB := Aside0.mk (Below.refl w.heap.size w)
  have HRT := Aside0.mk hrt
  clear hrt
  have H : ((fringelaw20_alive.f).bind fun t355 => ((fringelaw20_fit.f k l0 l1 a4).bind fun t356 => (if t356 = true then (if a2 < (-32) then (fringelaw20_SearchTurns.j0 k l0 l1 a2 a3 a4 t355 true) else (if a2 > 32 then (fringelaw20_SearchTurns.j0 k l0 l1 a2 a3 a4 t355 true) else (if a3 < 0 then (fringelaw20_SearchTurns.j0 k l0 l1 a2 a3 a4 t355 true) else (if a3 > 3 then (fringelaw20_SearchTurns.j0 k l0 l1 a2 a3 a4 t355 true) else (fringelaw20_SearchTurns.j0 k l0 l1 a2 a3 a4 t355 (!t355)))))) else (fringelaw20_SearchTurns.j0 k l0 l1 a2 a3 a4 t355 true)))) = some r := h
  clear h
  replace H := Option.bind_eq_some_iff.mp H
  obtain ⟨t355, A60, H⟩ := H
  replace H : ((fringelaw20_fit.f k l0 l1 a4).bind fun t356 => (if t356 = true then (if a2 < (-32) then (fringelaw20_SearchTurns.j0 k l0 l1 a2 a3 a4 t355 true) else (if a2 > 32 then (fringelaw20_SearchTurns.j0 k l0 l1 a2 a3 a4 t355 true) else (if a3 < 0 then (fringelaw20_SearchTurns.j0 k l0 l1 a2 a3 a4 t355 true) else (if a3 > 3 then (fringelaw20_SearchTurns.j0 k l0 l1 a2 a3 a4 t355 true) else (fringelaw20_SearchTurns.j0 k l0 l1 a2 a3 a4 t355 (!t355)))))) else (fringelaw20_SearchTurns.j0 k l0 l1 a2 a3 a4 t355 true))) = some r := H
  have A6 := Aside0.mk A60
  clear A60
  have HC7 := Aside0.mk H
  clear H
  go_enter Try.func7, Try.ntmps7
  go_upto_region 2 with (first | ((with_reducible refine gate_callee (f := 24) rfl ?_); refine goesL_ (some 25) rfl rfl Try.func24 (by kernel_rfl) rfl #[] rfl (by (try simp only [List.map_toArray, List.map_cons, List.map_nil]); first | done | rfl | (simp only [List.length_drop, List.length_take]; rfl)) ?_; (with_reducible refine (fringelaw20_alive.calls  t355 _ A6.out).mono ?_); rintro e w8 ⟨rfl, hb⟩; refine ⟨_, rfl, ?_⟩; have n0_ := Aside0.mk (below_step (by repeat (first | (with_reducible first | exact HB.out | apply below_alloc | apply pw_below_drewN | apply below_drew1) | exact HB.out)) hb); clear HB; have HB := n0_; clear n0_; (try clear hb); (try clear hb2); (try clear hk); (try clear hi)))
  (try simp only [Act.put, List.setIfInBounds_toArray, List.set_cons_zero, List.set_cons_succ])
  go_cut [50] (fun v50 wc => ∃ (kq : Nat) (x50_6 : Bool), v50 = .bool x50_6 ∧ Aside0 (fringelaw20_SearchTurns.j0 kq l0 l1 a2 a3 a4 t355 x50_6 = some r) ∧ Aside0 (kq ≤ k) ∧ Aside0 (Below w.heap.size w wc))
  case first =>
    have H := HC7.out
    clear HC7
    replace H := Option.bind_eq_some_iff.mp H
    obtain ⟨t356, A90, H⟩ := H
    replace H : (if t356 = true then (if a2 < (-32) then (fringelaw20_SearchTurns.j0 k l0 l1 a2 a3 a4 t355 true) else (if a2 > 32 then (fringelaw20_SearchTurns.j0 k l0 l1 a2 a3 a4 t355 true) else (if a3 < 0 then (fringelaw20_SearchTurns.j0 k l0 l1 a2 a3 a4 t355 true) else (if a3 > 3 then (fringelaw20_SearchTurns.j0 k l0 l1 a2 a3 a4 t355 true) else (fringelaw20_SearchTurns.j0 k l0 l1 a2 a3 a4 t355 (!t355)))))) else (fringelaw20_SearchTurns.j0 k l0 l1 a2 a3 a4 t355 true)) = some r := H
    have A9 := Aside0.mk A90
    clear A90
    by_cases c10 : t356 = true
    · subst c10
      have H1 : (if a2 < (-32) then (fringelaw20_SearchTurns.j0 k l0 l1 a2 a3 a4 t355 true) else (if a2 > 32 then (fringelaw20_SearchTurns.j0 k l0 l1 a2 a3 a4 t355 true) else (if a3 < 0 then (fringelaw20_SearchTurns.j0 k l0 l1 a2 a3 a4 t355 true) else (if a3 > 3 then (fringelaw20_SearchTurns.j0 k l0 l1 a2 a3 a4 t355 true) else (fringelaw20_SearchTurns.j0 k l0 l1 a2 a3 a4 t355 (!t355)))))) = some r := by rw [if_pos rfl] at H; exact H
      clear H
      have H := H1
      clear H1
      by_cases c11 : a2 < (-32)
      · rw [if_pos c11] at H
        have c11b0 : decide (a2 < (-32)) = true := decide_eq_true c11
        clear c11
        (first | rw [c11b0] | (simp only [i64_w, i32_w]; rw [c11b0]) | skip)
        have H' := Aside0.mk H
        clear H
        go_wp2_with (first | ((with_reducible refine gate_callee (f := 25) rfl ?_); refine goesL_ (some 29) rfl rfl Try.func25 (by kernel_rfl) rfl #[.slice A0 l0.length c0, .slice A1 l1.length c1, .int .i64 a4] rfl (by (try simp only [List.map_toArray, List.map_cons, List.map_nil]); first | done | rfl | (simp only [List.length_drop, List.length_take]; rfl)) ?_; (with_reducible refine (fringelaw20_fit.calls k _ _ l0 _ _ l1 a4 true _ ?side1 ?side2 ?side3 ?side4 A9.out).mono ?_); (case side1 => repeat (first | exact (Kd.C_below HR0.out HB.out) | (with_reducible refine Kd.C_alloc ?_ _) | (with_reducible refine Kd.C_drewN ?_ _) | (with_reducible refine Kd.C_drew ?_))); (case side2 => exact HC0.out); (case side3 => repeat (first | exact (Kd.C_below HR1.out HB.out) | (with_reducible refine Kd.C_alloc ?_ _) | (with_reducible refine Kd.C_drewN ?_ _) | (with_reducible refine Kd.C_drew ?_))); (case side4 => exact HC1.out); rintro e w' ⟨rfl, ⟨nd, rfl⟩⟩; refine ⟨_, rfl, ?_⟩))
        go_meet
        case rel => exact ⟨_, (true), (by first | rfl | (simp; done) | (simp [*]; done)), H', ⟨by first | omega | exact Nat.le_refl _⟩, ⟨by repeat (first | (with_reducible first | exact HB.out | apply below_alloc | apply pw_below_drewN | apply below_drew1) | exact HB.out)⟩⟩
      · rw [if_neg c11] at H
        have c11b0 : decide (a2 < (-32)) = false := decide_eq_false c11
        clear c11
        (first | rw [c11b0] | (simp only [i64_w, i32_w]; rw [c11b0]) | skip)
        by_cases c12 : a2 > 32
        · rw [if_pos c12] at H
          have c12b0 : decide (32 < a2) = true := decide_eq_true c12
          clear c12
          have H' := Aside0.mk H
          clear H
          go_wp2_with (first | ((with_reducible refine gate_callee (f := 25) rfl ?_); refine goesL_ (some 29) rfl rfl Try.func25 (by kernel_rfl) rfl #[.slice A0 l0.length c0, .slice A1 l1.length c1, .int .i64 a4] rfl (by (try simp only [List.map_toArray, List.map_cons, List.map_nil]); first | done | rfl | (simp only [List.length_drop, List.length_take]; rfl)) ?_; (with_reducible refine (fringelaw20_fit.calls k _ _ l0 _ _ l1 a4 true _ ?side1 ?side2 ?side3 ?side4 A9.out).mono ?_); (case side1 => repeat (first | exact (Kd.C_below HR0.out HB.out) | (with_reducible refine Kd.C_alloc ?_ _) | (with_reducible refine Kd.C_drewN ?_ _) | (with_reducible refine Kd.C_drew ?_))); (case side2 => exact HC0.out); (case side3 => repeat (first | exact (Kd.C_below HR1.out HB.out) | (with_reducible refine Kd.C_alloc ?_ _) | (with_reducible refine Kd.C_drewN ?_ _) | (with_reducible refine Kd.C_drew ?_))); (case side4 => exact HC1.out); rintro e w' ⟨rfl, ⟨nd, rfl⟩⟩; refine ⟨_, rfl, ?_⟩))
          go_meet
          case rel => exact ⟨_, (true), (by first | rfl | (simp; done) | (simp [*]; done)), H', ⟨by first | omega | exact Nat.le_refl _⟩, ⟨by repeat (first | (with_reducible first | exact HB.out | apply below_alloc | apply pw_below_drewN | apply below_drew1) | exact HB.out)⟩⟩
        · rw [if_neg c12] at H
          have c12b0 : decide (32 < a2) = false := decide_eq_false c12
          clear c12
          by_cases c13 : a3 < 0
          · rw [if_pos c13] at H
            have c13b0 : decide (a3 < 0) = true := decide_eq_true c13
            clear c13
            have H' := Aside0.mk H
            clear H
            go_wp2_with (first | ((with_reducible refine gate_callee (f := 25) rfl ?_); refine goesL_ (some 29) rfl rfl Try.func25 (by kernel_rfl) rfl #[.slice A0 l0.length c0, .slice A1 l1.length c1, .int .i64 a4] rfl (by (try simp only [List.map_toArray, List.map_cons, List.map_nil]); first | done | rfl | (simp only [List.length_drop, List.length_take]; rfl)) ?_; (with_reducible refine (fringelaw20_fit.calls k _ _ l0 _ _ l1 a4 true _ ?side1 ?side2 ?side3 ?side4 A9.out).mono ?_); (case side1 => repeat (first | exact (Kd.C_below HR0.out HB.out) | (with_reducible refine Kd.C_alloc ?_ _) | (with_reducible refine Kd.C_drewN ?_ _) | (with_reducible refine Kd.C_drew ?_))); (case side2 => exact HC0.out); (case side3 => repeat (first | exact (Kd.C_below HR1.out HB.out) | (with_reducible refine Kd.C_alloc ?_ _) | (with_reducible refine Kd.C_drewN ?_ _) | (with_reducible refine Kd.C_drew ?_))); (case side4 => exact HC1.out); rintro e w' ⟨rfl, ⟨nd, rfl⟩⟩; refine ⟨_, rfl, ?_⟩))
            go_meet
            case rel => exact ⟨_, (true), (by first | rfl | (simp; done) | (simp [*]; done)), H', ⟨by first | omega | exact Nat.le_refl _⟩, ⟨by repeat (first | (with_reducible first | exact HB.out | apply below_alloc | apply pw_below_drewN | apply below_drew1) | exact HB.out)⟩⟩
          · rw [if_neg c13] at H
            have c13b0 : decide (a3 < 0) = false := decide_eq_false c13
            clear c13
            by_cases c14 : a3 > 3
            · rw [if_pos c14] at H
              have c14b0 : decide (3 < a3) = true := decide_eq_true c14
              clear c14
              have H' := Aside0.mk H
              clear H
              go_wp2_with (first | ((with_reducible refine gate_callee (f := 25) rfl ?_); refine goesL_ (some 29) rfl rfl Try.func25 (by kernel_rfl) rfl #[.slice A0 l0.length c0, .slice A1 l1.length c1, .int .i64 a4] rfl (by (try simp only [List.map_toArray, List.map_cons, List.map_nil]); first | done | rfl | (simp only [List.length_drop, List.length_take]; rfl)) ?_; (with_reducible refine (fringelaw20_fit.calls k _ _ l0 _ _ l1 a4 true _ ?side1 ?side2 ?side3 ?side4 A9.out).mono ?_); (case side1 => repeat (first | exact (Kd.C_below HR0.out HB.out) | (with_reducible refine Kd.C_alloc ?_ _) | (with_reducible refine Kd.C_drewN ?_ _) | (with_reducible refine Kd.C_drew ?_))); (case side2 => exact HC0.out); (case side3 => repeat (first | exact (Kd.C_below HR1.out HB.out) | (with_reducible refine Kd.C_alloc ?_ _) | (with_reducible refine Kd.C_drewN ?_ _) | (with_reducible refine Kd.C_drew ?_))); (case side4 => exact HC1.out); rintro e w' ⟨rfl, ⟨nd, rfl⟩⟩; refine ⟨_, rfl, ?_⟩))
              go_meet
              case rel => exact ⟨_, (true), (by first | rfl | (simp; done) | (simp [*]; done)), H', ⟨by first | omega | exact Nat.le_refl _⟩, ⟨by repeat (first | (with_reducible first | exact HB.out | apply below_alloc | apply pw_below_drewN | apply below_drew1) | exact HB.out)⟩⟩
            · rw [if_neg c14] at H
              have c14b0 : decide (3 < a3) = false := decide_eq_false c14
              clear c14
              have H' := Aside0.mk H
              clear H
              go_wp2_with (first | ((with_reducible refine gate_callee (f := 25) rfl ?_); refine goesL_ (some 29) rfl rfl Try.func25 (by kernel_rfl) rfl #[.slice A0 l0.length c0, .slice A1 l1.length c1, .int .i64 a4] rfl (by (try simp only [List.map_toArray, List.map_cons, List.map_nil]); first | done | rfl | (simp only [List.length_drop, List.length_take]; rfl)) ?_; (with_reducible refine (fringelaw20_fit.calls k _ _ l0 _ _ l1 a4 true _ ?side1 ?side2 ?side3 ?side4 A9.out).mono ?_); (case side1 => repeat (first | exact (Kd.C_below HR0.out HB.out) | (with_reducible refine Kd.C_alloc ?_ _) | (with_reducible refine Kd.C_drewN ?_ _) | (with_reducible refine Kd.C_drew ?_))); (case side2 => exact HC0.out); (case side3 => repeat (first | exact (Kd.C_below HR1.out HB.out) | (with_reducible refine Kd.C_alloc ?_ _) | (with_reducible refine Kd.C_drewN ?_ _) | (with_reducible refine Kd.C_drew ?_))); (case side4 => exact HC1.out); rintro e w' ⟨rfl, ⟨nd, rfl⟩⟩; refine ⟨_, rfl, ?_⟩))
              go_meet
              case rel => exact ⟨_, (!t355), (by first | rfl | (simp; done) | (simp [*]; done)), H', ⟨by first | omega | exact Nat.le_refl _⟩, ⟨by repeat (first | (with_reducible first | exact HB.out | apply below_alloc | apply pw_below_drewN | apply below_drew1) | exact HB.out)⟩⟩
    · replace c10 := Bool.eq_false_iff.mpr c10
      subst c10
      have H1 : (fringelaw20_SearchTurns.j0 k l0 l1 a2 a3 a4 t355 true) = some r := by rw [if_neg (show ¬ (false = true) by decide)] at H; exact H
      clear H
      have H := H1
      clear H1
      have H' := Aside0.mk H
      clear H
      go_wp2_with (first | ((with_reducible refine gate_callee (f := 25) rfl ?_); refine goesL_ (some 29) rfl rfl Try.func25 (by kernel_rfl) rfl #[.slice A0 l0.length c0, .slice A1 l1.length c1, .int .i64 a4] rfl (by (try simp only [List.map_toArray, List.map_cons, List.map_nil]); first | done | rfl | (simp only [List.length_drop, List.length_take]; rfl)) ?_; (with_reducible refine (fringelaw20_fit.calls k _ _ l0 _ _ l1 a4 false _ ?side1 ?side2 ?side3 ?side4 A9.out).mono ?_); (case side1 => repeat (first | exact (Kd.C_below HR0.out HB.out) | (with_reducible refine Kd.C_alloc ?_ _) | (with_reducible refine Kd.C_drewN ?_ _) | (with_reducible refine Kd.C_drew ?_))); (case side2 => exact HC0.out); (case side3 => repeat (first | exact (Kd.C_below HR1.out HB.out) | (with_reducible refine Kd.C_alloc ?_ _) | (with_reducible refine Kd.C_drewN ?_ _) | (with_reducible refine Kd.C_drew ?_))); (case side4 => exact HC1.out); rintro e w' ⟨rfl, ⟨nd, rfl⟩⟩; refine ⟨_, rfl, ?_⟩))
      go_meet
      case rel => exact ⟨_, (true), (by first | rfl | (simp; done) | (simp [*]; done)), H', ⟨by first | omega | exact Nat.le_refl _⟩, ⟨by repeat (first | (with_reducible first | exact HB.out | apply below_alloc | apply pw_below_drewN | apply below_drew1) | exact HB.out)⟩⟩
  case rest =>
    clear HC7
    try clear c1
    try clear c2
    try clear p2
    try clear c7
    try clear c10
    try clear c11
    try clear c11b0
    try clear c12
    try clear c12b0
    try clear c13
    try clear c13b0
    try clear c14
    try clear c14b0
    obtain ⟨kq, x50_6, rfl, HA, HJ6, HB⟩ := hcut
    cases kq with
    | zero => exact absurd HA.out (by simp [fringelaw20_SearchTurns.j0])
    | succ kj6 =>
      have H := HA.out
      clear HA
      simp only [fringelaw20_SearchTurns.j0] at H
      by_cases c15 : x50_6 = true
      · subst c15
        have H1 : (some t355) = some r := by rw [if_pos rfl] at H; exact H
        clear H
        have H := H1
        clear H1
        obtain rfl := Option.some.inj H
        go_wp2
        go_ret
        exact ⟨by first | rfl | (simp [errW_none, errW_some] <;> rfl) | (simp [*, errW_none, errW_some] <;> rfl), by repeat (first | (with_reducible first | exact HB.out | apply below_alloc | apply pw_below_drewN | apply below_drew1) | exact HB.out)⟩
      · replace c15 := Bool.eq_false_iff.mpr c15
        subst c15
        have H1 : (fringelaw20_SearchTurns.l0 kj6 l0 l1 a2 a3 a4 t355 ([] : List Int) 0) = some r := by rw [if_neg (show ¬ (false = true) by decide)] at H; exact H
        clear H
        have H := H1
        clear H1
        have H' := Aside0.mk H
        clear H
        go_wp2
        go_loopg [12, 13] kj6 (fun kq v12 v13 w' => ∃ (x12_2 : List Int) (x13_2 : Int), v13 = .int .i64 x13_2 ∧ Aside0 (fringelaw20_SearchTurns.l0 kq l0 l1 a2 a3 a4 t355 x12_2 x13_2 = some r) ∧ Aside0 (kq ≤ kj6) ∧ Aside0 (Kd.R (Kd.int .i64) 3 w' w.heap.size (fun _ => True) v12 x12_2) ∧ Aside0 (Below w.heap.size w w'))
        case atStart => exact ⟨(([] : List Int)), (0), (by first | rfl | (simp; done) | (simp [*]; done)), H', ⟨Nat.le_refl _⟩, ⟨by first | exact Kd.R_nil _ _ _ _ _ | exact Kd.N_nil _ _ _ _ _ | exact Kd.V_nil _ _ _ _ _ | exact Kd.Q_nil _ _ _ _ _ | exact Kd.S_nil _ _ _ _ _⟩, ⟨by repeat (first | (with_reducible first | exact HB.out | apply below_alloc | apply pw_below_drewN | apply below_drew1) | exact HB.out)⟩⟩
        case round =>
          clear H'
          try clear c1
          try clear c2
          try clear p2
          try clear c7
          try clear c10
          try clear c11
          try clear c11b0
          try clear c12
          try clear c12b0
          try clear c13
          try clear c13b0
          try clear c14
          try clear c14b0
          try clear c15
          try clear p2
          obtain ⟨x12_2, x13_2, rfl, HA, HK2, HO_12, HB⟩ := hrel
          cases gk with
          | zero => exact absurd HA.out (by simp [fringelaw20_SearchTurns.l0])
          | succ k2 =>
            have H := HA.out
            clear HA
            simp only [fringelaw20_SearchTurns.l0] at H
            by_cases c16 : x13_2 < (l0.length : Int)
            · rw [if_pos c16] at H
              have c16b0 : decide (x13_2 < (l0.length : Int)) = true := decide_eq_true c16
              clear c16
              by_cases c17 : a4 = 0
              · rw [if_pos c17] at H
                exact absurd H (by simp)
              · rw [if_neg c17] at H
                have c17b0 : (a4 == 0) = false := beq_eq_false_iff_ne.mpr c17
                have c17b1 : (a4 != 0) = true := bne_iff_ne.mpr c17
                by_cases c18 : (Int.tmod (wrap64 (Int.tdiv x13_2 a4)) 2) = 1
                · rw [if_pos c18] at H
                  have c18b0 : ((Int.tmod (wrap64 (Int.tdiv x13_2 a4)) 2) == 1) = true := beq_iff_eq.mpr c18
                  have c18b1 : ((Int.tmod (wrap64 (Int.tdiv x13_2 a4)) 2) != 1) = false := bne_eq_false_iff_eq.mpr c18
                  clear c18
                  by_cases c19 : 0 ≤ x13_2
                  · rw [if_pos c19] at H
                    have c19b0 : decide (0 ≤ x13_2) = true := decide_eq_true c19
                    clear c19
                    by_cases c20 : x12_2.length < 17592186044416
                    · rw [if_pos c20] at H
                      have LMc20 := Aside0.mk c20
                      clear c20
                      obtain ⟨y358, hy358⟩ : ∃ y_ : List Int, y_ = (x12_2 ++ [wrap64 (-(rd l0 x13_2))]) := ⟨_, rfl⟩
                      replace H : (fringelaw20_SearchTurns.l0 k2 l0 l1 a2 a3 a4 t355 y358 (wrap64 (x13_2 + 1))) = some r := by first | (rw [hy358]; with_reducible exact H) | (have H2_ := (Option.bind_some _ _).symm.trans H; rw [hy358]; with_reducible exact H2_) | (have H2_ := (Option.bind_some _ _).symm.trans H; with_reducible exact H2_) | with_reducible exact H | (rw [hy358]; exact H) | exact H
                      have Ny358 := Aside0.mk hy358
                      clear hy358
                      have H' := Aside0.mk H
                      clear H
                      have p357 : 0 ≤ (x13_2 : Int) := of_decide_eq_true (by first | (with_reducible assumption) | assumption)
                      have q357 : x13_2 < (l0.length : Int) := of_decide_eq_true (by first | (with_reducible assumption) | assumption)
                      obtain ⟨ad357, e357, hx357_0⟩ := Kd.at_int HR0.out x13_2 p357 q357
                      cases e357
                      replace hx357_0 := (HB.out.cell (World.block_lt_of_cell? w _ hx357_0)).trans hx357_0
                      replace p357 := eq_true p357
                      replace q357 := eq_true q357
                      go_wp2_with (first | ((with_reducible refine gate_builtin (b := .append) (xs := #[.tmp 63, .tmp 69]) rfl ?_); (try (refine gate_guard (by rfl) ?_; dsimp only)); at_builtin; refine Kd.R_append (Kd.int .i64) (w0 := w) w.heap.size rfl (.tmp 63) (.tmp 69) 24 3 (.int .i64 0) 8 rfl Try.underlying24 info3 rfl (by decide) (by omega) u12 x12_2 (wrap64 (-(rd l0 x13_2))) [.int .i64 (wrap64 (-(rd l0 x13_2)))] (fun _ => True) (fun _ => False) rfl rfl ?aP (fun _ hk => hk.elim) ?aF ?aO ?aB ?aS ?aL ?_; (case aP => exact rfl); (case aB => exact (by repeat (first | (with_reducible first | exact HB.out | apply below_alloc | apply pw_below_drewN | apply below_drew1) | exact HB.out))); (case aF => exact (fun _ _ => trivial)); (case aO => exact (by (with_reducible repeat (first | apply Kd.R_alloc | apply Kd.R_drewN | apply Kd.R_drew)); exact HO_12.out)); (case aS => exact (below_size (by repeat (first | (with_reducible first | exact HB.out | apply below_alloc | apply pw_below_drewN | apply below_drew1) | exact HB.out)))); (case aL => have := LMc20.out; omega); intro v359 w21 ho hb hg hat; rw [← Ny358.out] at ho; have n0_ := Aside0.mk (hb); have n1_ := Aside0.mk (ho); clear HB; clear HO_12; have HB := n0_; have HO360 := n1_; clear n0_ n1_; clear ho hb hg hat))
                      go_roundg k2
                      case measure => have := HJ6.out; have := HK2.out; omega
                      case rel => exact ⟨(y358), (wrap64 (x13_2 + 1)), (by first | rfl | (simp; done) | (simp [*]; done)), H', ⟨by have := HJ6.out; have := HK2.out; omega⟩, ⟨by (with_reducible repeat (first | apply Kd.R_alloc | apply Kd.R_drewN | apply Kd.R_drew)); exact HO360.out⟩, ⟨by repeat (first | (with_reducible first | exact HB.out | apply below_alloc | apply pw_below_drewN | apply below_drew1) | exact HB.out)⟩⟩
                    · rw [if_neg c20] at H
                      exact absurd H (by simp)
                  · rw [if_neg c19] at H
                    exact absurd H (by simp)
                · rw [if_neg c18] at H
                  have c18b0 : ((Int.tmod (wrap64 (Int.tdiv x13_2 a4)) 2) == 1) = false := beq_eq_false_iff_ne.mpr c18
                  have c18b1 : ((Int.tmod (wrap64 (Int.tdiv x13_2 a4)) 2) != 1) = true := bne_iff_ne.mpr c18
                  by_cases c22 : 0 ≤ x13_2
                  · rw [if_pos c22] at H
                    have c22b0 : decide (0 ≤ x13_2) = true := decide_eq_true c22
                    clear c22
                    by_cases c23 : x12_2.length < 17592186044416
                    · rw [if_pos c23] at H
                      have LMc23 := Aside0.mk c23
                      clear c23
                      obtain ⟨y362, hy362⟩ : ∃ y_ : List Int, y_ = (x12_2 ++ [rd l0 x13_2]) := ⟨_, rfl⟩
                      replace H : (fringelaw20_SearchTurns.l0 k2 l0 l1 a2 a3 a4 t355 y362 (wrap64 (x13_2 + 1))) = some r := by first | (rw [hy362]; with_reducible exact H) | (have H2_ := (Option.bind_some _ _).symm.trans H; rw [hy362]; with_reducible exact H2_) | (have H2_ := (Option.bind_some _ _).symm.trans H; with_reducible exact H2_) | with_reducible exact H | (rw [hy362]; exact H) | exact H
                      have Ny362 := Aside0.mk hy362
                      clear hy362
                      have H' := Aside0.mk H
                      clear H
                      have p361 : 0 ≤ (x13_2 : Int) := of_decide_eq_true (by first | (with_reducible assumption) | assumption)
                      have q361 : x13_2 < (l0.length : Int) := of_decide_eq_true (by first | (with_reducible assumption) | assumption)
                      obtain ⟨ad361, e361, hx361_0⟩ := Kd.at_int HR0.out x13_2 p361 q361
                      cases e361
                      replace hx361_0 := (HB.out.cell (World.block_lt_of_cell? w _ hx361_0)).trans hx361_0
                      replace p361 := eq_true p361
                      replace q361 := eq_true q361
                      go_wp2_with (first | ((with_reducible refine gate_builtin (b := .append) (xs := #[.tmp 71, .tmp 76]) rfl ?_); (try (refine gate_guard (by rfl) ?_; dsimp only)); at_builtin; refine Kd.R_append (Kd.int .i64) (w0 := w) w.heap.size rfl (.tmp 71) (.tmp 76) 24 3 (.int .i64 0) 8 rfl Try.underlying24 info3 rfl (by decide) (by omega) u12 x12_2 (rd l0 x13_2) [.int .i64 (rd l0 x13_2)] (fun _ => True) (fun _ => False) rfl rfl ?aP (fun _ hk => hk.elim) ?aF ?aO ?aB ?aS ?aL ?_; (case aP => exact rfl); (case aB => exact (by repeat (first | (with_reducible first | exact HB.out | apply below_alloc | apply pw_below_drewN | apply below_drew1) | exact HB.out))); (case aF => exact (fun _ _ => trivial)); (case aO => exact (by (with_reducible repeat (first | apply Kd.R_alloc | apply Kd.R_drewN | apply Kd.R_drew)); exact HO_12.out)); (case aS => exact (below_size (by repeat (first | (with_reducible first | exact HB.out | apply below_alloc | apply pw_below_drewN | apply below_drew1) | exact HB.out)))); (case aL => have := LMc23.out; omega); intro v363 w24 ho hb hg hat; rw [← Ny362.out] at ho; have n0_ := Aside0.mk (hb); have n1_ := Aside0.mk (ho); clear HB; clear HO_12; have HB := n0_; have HO364 := n1_; clear n0_ n1_; clear ho hb hg hat))
                      go_roundg k2
                      case measure => have := HJ6.out; have := HK2.out; omega
                      case rel => exact ⟨(y362), (wrap64 (x13_2 + 1)), (by first | rfl | (simp; done) | (simp [*]; done)), H', ⟨by have := HJ6.out; have := HK2.out; omega⟩, ⟨by (with_reducible repeat (first | apply Kd.R_alloc | apply Kd.R_drewN | apply Kd.R_drew)); exact HO364.out⟩, ⟨by repeat (first | (with_reducible first | exact HB.out | apply below_alloc | apply pw_below_drewN | apply below_drew1) | exact HB.out)⟩⟩
                    · rw [if_neg c23] at H
                      exact absurd H (by simp)
                  · rw [if_neg c22] at H
                    exact absurd H (by simp)
            · rw [if_neg c16] at H
              have c16b0 : decide (x13_2 < (l0.length : Int)) = false := decide_eq_false c16
              clear c16
              replace H := Option.bind_eq_some_iff.mp H
              obtain ⟨⟨t365, t366, t367, t368, t369, t370⟩, A250, H⟩ := H
              replace H : ((search_At.f k2 x12_2 l1 a2 a3 a4).bind fun bt372 => ((search_At.f k2 l0 l1 a2 a3 a4).bind fun bt379 => ((search_Stop.f k2 l0 a3 a4).bind fun bt386 => (if t370 = 0 then (if bt372.2.2.2.2.2 = 0 then (if bt379.2.2.2.2.2 = 0 then (if bt386.2 = 0 then (if (!(t367 == bt372.2.2.1) || (!(t368 == bt372.2.2.2.1))) = true then (fringelaw20_SearchTurns.j2 k2 l0 l1 a2 t355 bt386.1 true bt379.1 bt379.2.1 bt379.2.2.1 bt379.2.2.2.1 bt379.2.2.2.2.1) else (if t369 = bt372.2.2.2.2.1 then (fringelaw20_SearchTurns.j2 k2 l0 l1 a2 t355 bt386.1 ((bt386.1.length : Int) != (l0.length : Int)) bt379.1 bt379.2.1 bt379.2.2.1 bt379.2.2.2.1 bt379.2.2.2.2.1) else (fringelaw20_SearchTurns.j2 k2 l0 l1 a2 t355 bt386.1 true bt379.1 bt379.2.1 bt379.2.2.1 bt379.2.2.2.1 bt379.2.2.2.2.1))) else (fringelaw20_SearchTurns.j2 k2 l0 l1 a2 t355 bt386.1 true bt379.1 bt379.2.1 bt379.2.2.1 bt379.2.2.2.1 bt379.2.2.2.2.1)) else (fringelaw20_SearchTurns.j2 k2 l0 l1 a2 t355 bt386.1 true bt379.1 bt379.2.1 bt379.2.2.1 bt379.2.2.2.1 bt379.2.2.2.2.1)) else (fringelaw20_SearchTurns.j2 k2 l0 l1 a2 t355 bt386.1 true bt379.1 bt379.2.1 bt379.2.2.1 bt379.2.2.2.1 bt379.2.2.2.2.1)) else (fringelaw20_SearchTurns.j2 k2 l0 l1 a2 t355 bt386.1 true bt379.1 bt379.2.1 bt379.2.2.1 bt379.2.2.2.1 bt379.2.2.2.2.1))))) = some r := H
              have A25 := Aside0.mk A250
              clear A250
              replace H := Option.bind_eq_some_iff.mp H
              obtain ⟨⟨t372, t373, t374, t375, t376, t377⟩, A260, H⟩ := H
              replace H : ((search_At.f k2 l0 l1 a2 a3 a4).bind fun bt379 => ((search_Stop.f k2 l0 a3 a4).bind fun bt386 => (if t370 = 0 then (if t377 = 0 then (if bt379.2.2.2.2.2 = 0 then (if bt386.2 = 0 then (if (!(t367 == t374) || (!(t368 == t375))) = true then (fringelaw20_SearchTurns.j2 k2 l0 l1 a2 t355 bt386.1 true bt379.1 bt379.2.1 bt379.2.2.1 bt379.2.2.2.1 bt379.2.2.2.2.1) else (if t369 = t376 then (fringelaw20_SearchTurns.j2 k2 l0 l1 a2 t355 bt386.1 ((bt386.1.length : Int) != (l0.length : Int)) bt379.1 bt379.2.1 bt379.2.2.1 bt379.2.2.2.1 bt379.2.2.2.2.1) else (fringelaw20_SearchTurns.j2 k2 l0 l1 a2 t355 bt386.1 true bt379.1 bt379.2.1 bt379.2.2.1 bt379.2.2.2.1 bt379.2.2.2.2.1))) else (fringelaw20_SearchTurns.j2 k2 l0 l1 a2 t355 bt386.1 true bt379.1 bt379.2.1 bt379.2.2.1 bt379.2.2.2.1 bt379.2.2.2.2.1)) else (fringelaw20_SearchTurns.j2 k2 l0 l1 a2 t355 bt386.1 true bt379.1 bt379.2.1 bt379.2.2.1 bt379.2.2.2.1 bt379.2.2.2.2.1)) else (fringelaw20_SearchTurns.j2 k2 l0 l1 a2 t355 bt386.1 true bt379.1 bt379.2.1 bt379.2.2.1 bt379.2.2.2.1 bt379.2.2.2.2.1)) else (fringelaw20_SearchTurns.j2 k2 l0 l1 a2 t355 bt386.1 true bt379.1 bt379.2.1 bt379.2.2.1 bt379.2.2.2.1 bt379.2.2.2.2.1)))) = some r := H
              have A26 := Aside0.mk A260
              clear A260
              replace H := Option.bind_eq_some_iff.mp H
              obtain ⟨⟨t379, t380, t381, t382, t383, t384⟩, A270, H⟩ := H
              replace H : ((search_Stop.f k2 l0 a3 a4).bind fun bt386 => (if t370 = 0 then (if t377 = 0 then (if t384 = 0 then (if bt386.2 = 0 then (if (!(t367 == t374) || (!(t368 == t375))) = true then (fringelaw20_SearchTurns.j2 k2 l0 l1 a2 t355 bt386.1 true t379 t380 t381 t382 t383) else (if t369 = t376 then (fringelaw20_SearchTurns.j2 k2 l0 l1 a2 t355 bt386.1 ((bt386.1.length : Int) != (l0.length : Int)) t379 t380 t381 t382 t383) else (fringelaw20_SearchTurns.j2 k2 l0 l1 a2 t355 bt386.1 true t379 t380 t381 t382 t383))) else (fringelaw20_SearchTurns.j2 k2 l0 l1 a2 t355 bt386.1 true t379 t380 t381 t382 t383)) else (fringelaw20_SearchTurns.j2 k2 l0 l1 a2 t355 bt386.1 true t379 t380 t381 t382 t383)) else (fringelaw20_SearchTurns.j2 k2 l0 l1 a2 t355 bt386.1 true t379 t380 t381 t382 t383)) else (fringelaw20_SearchTurns.j2 k2 l0 l1 a2 t355 bt386.1 true t379 t380 t381 t382 t383))) = some r := H
              have A27 := Aside0.mk A270
              clear A270
              replace H := Option.bind_eq_some_iff.mp H
              obtain ⟨⟨t386, t387⟩, A280, H⟩ := H
              replace H : (if t370 = 0 then (if t377 = 0 then (if t384 = 0 then (if t387 = 0 then (if (!(t367 == t374) || (!(t368 == t375))) = true then (fringelaw20_SearchTurns.j2 k2 l0 l1 a2 t355 t386 true t379 t380 t381 t382 t383) else (if t369 = t376 then (fringelaw20_SearchTurns.j2 k2 l0 l1 a2 t355 t386 ((t386.length : Int) != (l0.length : Int)) t379 t380 t381 t382 t383) else (fringelaw20_SearchTurns.j2 k2 l0 l1 a2 t355 t386 true t379 t380 t381 t382 t383))) else (fringelaw20_SearchTurns.j2 k2 l0 l1 a2 t355 t386 true t379 t380 t381 t382 t383)) else (fringelaw20_SearchTurns.j2 k2 l0 l1 a2 t355 t386 true t379 t380 t381 t382 t383)) else (fringelaw20_SearchTurns.j2 k2 l0 l1 a2 t355 t386 true t379 t380 t381 t382 t383)) else (fringelaw20_SearchTurns.j2 k2 l0 l1 a2 t355 t386 true t379 t380 t381 t382 t383)) = some r := H
              have A28 := Aside0.mk A280
              clear A280
              have HC29 := Aside0.mk H
              clear H
              go_upto_region 15 with (first | ((with_reducible refine gate_callee (f := 13) rfl ?_); refine goesL_ (some 86) rfl rfl Try.func13 (by kernel_rfl) rfl #[.slice A0 l0.length c0, .slice A1 l1.length c1, .int .i64 a2, .int .i64 (Int.tmod (wrap64 (a3 + 2)) 4), .int .i64 a4] rfl (by (try simp only [List.map_toArray, List.map_cons, List.map_nil]); first | done | rfl | (simp only [List.length_drop, List.length_take]; rfl)) ?_; (with_reducible refine (search_At.calls k2 _ _ l0 _ _ l1 a2 (Int.tmod (wrap64 (a3 + 2)) 4) a4 t365 t366 t367 t368 t369 t370 _ ?side1 ?side2 ?side3 ?side4 A25.out).mono ?_); (case side1 => repeat (first | exact (Kd.C_below HR0.out HB.out) | (with_reducible refine Kd.C_alloc ?_ _) | (with_reducible refine Kd.C_drewN ?_ _) | (with_reducible refine Kd.C_drew ?_))); (case side2 => exact HC0.out); (case side3 => repeat (first | exact (Kd.C_below HR1.out HB.out) | (with_reducible refine Kd.C_alloc ?_ _) | (with_reducible refine Kd.C_drewN ?_ _) | (with_reducible refine Kd.C_drew ?_))); (case side4 => exact HC1.out); rintro e w30 ⟨rfl, hb⟩; refine ⟨_, rfl, ?_⟩; have n0_ := Aside0.mk (Kd.R_below (by (with_reducible repeat (first | apply Kd.R_alloc | apply Kd.R_drewN | apply Kd.R_drew)); exact HO_12.out) hb); have n1_ := Aside0.mk (below_step (by repeat (first | (with_reducible first | exact HB.out | apply below_alloc | apply pw_below_drewN | apply below_drew1) | exact HB.out)) hb); clear HO_12; clear HB; have HO_12 := n0_; have HB := n1_; clear n0_ n1_; (try clear hb); (try clear hb2); (try clear hk); (try clear hi)) | ((with_reducible refine gate_dst (N := 14) rfl ?_); (try (refine gate_guard (by rfl) ?_; dsimp only)); refine box_event ?hg (N := 14) ?hd (cs := #[.int .i64 0, .int .i64 0, .int .i64 0, .int .i64 0, .int .i64 0]) (t := 32) ?hr ?_; (case hd => rfl); (case hg => rfl); (case hr => first | (go_simp; done) | (go_simp; rfl)); intro gb371 hg w31 hbox hb; have n0_ := Aside0.mk (Kd.R_below (by (with_reducible repeat (first | apply Kd.R_alloc | apply Kd.R_drewN | apply Kd.R_drew)); exact HO_12.out) hb); have n1_ := Aside0.mk (below_step (by repeat (first | (with_reducible first | exact HB.out | apply below_alloc | apply pw_below_drewN | apply below_drew1) | exact HB.out)) hb); have n2_ := Aside0.mk (hbox); have n3_ := Aside0.mk ((by rw [hg]; exact (below_size (by repeat (first | (with_reducible first | exact HB.out | apply below_alloc | apply pw_below_drewN | apply below_drew1) | exact HB.out))) : w.heap.size ≤ gb371)); have n4_ := Aside0.mk ((by rw [hg]; exact (below_size (by repeat (first | (with_reducible first | exact HB.out | apply below_alloc | apply pw_below_drewN | apply below_drew1) | exact HB.out))) : w.heap.size ≤ gb371)); clear HO_12; clear HB; have HO_12 := n0_; have HB := n1_; have BK371 := n2_; have GW371 := n3_; have GE371 := n4_; clear n0_ n1_ n2_ n3_ n4_; clear hb hbox hg; have hcz32_0 : w31.cell? ⟨gb371, 0, none⟩ = some (.int .i64 0) := (blk_cell BK371.out 0).trans rfl; have hcz32_1 : w31.cell? ⟨gb371, 1, none⟩ = some (.int .i64 0) := (blk_cell BK371.out 1).trans rfl; have hcz32_2 : w31.cell? ⟨gb371, 2, none⟩ = some (.int .i64 0) := (blk_cell BK371.out 2).trans rfl; have hcz32_3 : w31.cell? ⟨gb371, 3, none⟩ = some (.int .i64 0) := (blk_cell BK371.out 3).trans rfl; have hcz32_4 : w31.cell? ⟨gb371, 4, none⟩ = some (.int .i64 0) := (blk_cell BK371.out 4).trans rfl; have hfz32_0 := blk_frozen BK371.out 0; have hfz32_1 := blk_frozen BK371.out 1; have hfz32_2 := blk_frozen BK371.out 2; have hfz32_3 := blk_frozen BK371.out 3; have hfz32_4 := blk_frozen BK371.out 4; obtain ⟨Ao33, co33, eo33⟩ := Kd.R_slice HO_12.out; subst eo33) | ((with_reducible refine gate_callee (f := 13) rfl ?_); refine goesL_ (some 95) rfl rfl Try.func13 (by kernel_rfl) rfl #[.slice Ao33 x12_2.length co33, .slice A1 l1.length c1, .int .i64 a2, .int .i64 a3, .int .i64 a4] rfl (by (try simp only [List.map_toArray, List.map_cons, List.map_nil]); first | done | rfl | (simp only [List.length_drop, List.length_take]; rfl)) ?_; (with_reducible refine (search_At.calls k2 _ _ x12_2 _ _ l1 a2 a3 a4 t372 t373 t374 t375 t376 t377 _ ?side1 ?side2 ?side3 ?side4 A26.out).mono ?_); (case side1 => refine (Kd.R_reads' (e := 3) (base := w.heap.size) (ok := fun k_ => True) (n := x12_2.length) (c := co33) ?_).2.2; exact (by (with_reducible repeat (first | apply Kd.R_alloc | apply Kd.R_drewN | apply Kd.R_drew)); exact (Kd.R_mono (Kd.R_far (p := ⟨gb371, 4, none⟩) (Kd.R_far (p := ⟨gb371, 3, none⟩) (Kd.R_far (p := ⟨gb371, 2, none⟩) (Kd.R_far (p := ⟨gb371, 1, none⟩) (Kd.R_far (p := ⟨gb371, 0, none⟩) (Kd.R_types HO_12.out BK371.out (by decide)) (fun _ hk => hk.2) (.int .i64 t365)) (fun _ hk => hk.2) (.int .i64 t366)) (fun _ hk => hk.2) (.int .i64 t367)) (fun _ hk => hk.2) (.int .i64 t368)) (fun _ hk => hk.2) (.int .i64 t369)) (fun _ h_ => h_.1)))); (case side2 => exact (Kd.R_reads' HO_12.out).2.1); (case side3 => exact Kd.C_below HR1.out (by repeat (first | (with_reducible first | exact HB.out | apply below_alloc | apply pw_below_drewN | apply below_drew1 | refine below_set ?_ GE371.out) | exact HB.out))); (case side4 => exact HC1.out); rintro e w34 ⟨rfl, hb⟩; refine ⟨_, rfl, ?_⟩; have n0_ := Aside0.mk (Kd.R_below (by (with_reducible repeat (first | apply Kd.R_alloc | apply Kd.R_drewN | apply Kd.R_drew)); exact (Kd.R_mono (Kd.R_far (p := ⟨gb371, 4, none⟩) (Kd.R_far (p := ⟨gb371, 3, none⟩) (Kd.R_far (p := ⟨gb371, 2, none⟩) (Kd.R_far (p := ⟨gb371, 1, none⟩) (Kd.R_far (p := ⟨gb371, 0, none⟩) (Kd.R_types HO_12.out BK371.out (by decide)) (fun _ hk => hk.2) (.int .i64 t365)) (fun _ hk => hk.2) (.int .i64 t366)) (fun _ hk => hk.2) (.int .i64 t367)) (fun _ hk => hk.2) (.int .i64 t368)) (fun _ hk => hk.2) (.int .i64 t369)) (fun _ h_ => h_.1))) hb); have n1_ := Aside0.mk (blk_below (g := gb371) (o := .cells #[.int .i64 t365, .int .i64 t366, .int .i64 t367, .int .i64 t368, .int .i64 t369] 32 (0, 0)) (by (with_reducible repeat (first | refine blk_drewN ?_ _ | refine blk_drew ?_ | refine blk_alloc ?_ _)); refine blk_put (cs := #[.int .i64 t365, .int .i64 t366, .int .i64 t367, .int .i64 t368, .int .i64 0]) ?_ 4 _ rfl; (with_reducible repeat (first | refine blk_drewN ?_ _ | refine blk_drew ?_ | refine blk_alloc ?_ _)); refine blk_put (cs := #[.int .i64 t365, .int .i64 t366, .int .i64 t367, .int .i64 0, .int .i64 0]) ?_ 3 _ rfl; (with_reducible repeat (first | refine blk_drewN ?_ _ | refine blk_drew ?_ | refine blk_alloc ?_ _)); refine blk_put (cs := #[.int .i64 t365, .int .i64 t366, .int .i64 0, .int .i64 0, .int .i64 0]) ?_ 2 _ rfl; (with_reducible repeat (first | refine blk_drewN ?_ _ | refine blk_drew ?_ | refine blk_alloc ?_ _)); refine blk_put (cs := #[.int .i64 t365, .int .i64 0, .int .i64 0, .int .i64 0, .int .i64 0]) ?_ 1 _ rfl; (with_reducible repeat (first | refine blk_drewN ?_ _ | refine blk_drew ?_ | refine blk_alloc ?_ _)); refine blk_put (cs := #[.int .i64 0, .int .i64 0, .int .i64 0, .int .i64 0, .int .i64 0]) ?_ 0 _ rfl; (with_reducible repeat (first | refine blk_drewN ?_ _ | refine blk_drew ?_ | refine blk_alloc ?_ _)); exact BK371.out) hb); have n2_ := Aside0.mk (below_step (by repeat (first | (with_reducible first | exact HB.out | apply below_alloc | apply pw_below_drewN | apply below_drew1 | refine below_set ?_ GE371.out) | exact HB.out)) hb); clear HO_12; clear BK371; clear HB; have HO_12 := n0_; have BK371 := n1_; have HB := n2_; clear n0_ n1_ n2_; (try clear hb); (try clear hb2); (try clear hk); (try clear hi)) | ((with_reducible refine gate_dst (N := 16) rfl ?_); (try (refine gate_guard (by rfl) ?_; dsimp only)); refine box_event ?hg (N := 16) ?hd (cs := #[.int .i64 0, .int .i64 0, .int .i64 0, .int .i64 0, .int .i64 0]) (t := 32) ?hr ?_; (case hd => rfl); (case hg => rfl); (case hr => first | (go_simp; done) | (go_simp; rfl)); intro gb378 hg w35 hbox hb; have n0_ := Aside0.mk (Kd.R_below (by (with_reducible repeat (first | apply Kd.R_alloc | apply Kd.R_drewN | apply Kd.R_drew)); exact HO_12.out) hb); have n1_ := Aside0.mk (blk_below (g := gb371) (o := .cells #[.int .i64 t365, .int .i64 t366, .int .i64 t367, .int .i64 t368, .int .i64 t369] 32 (0, 0)) (by (with_reducible repeat (first | refine blk_drewN ?_ _ | refine blk_drew ?_ | refine blk_alloc ?_ _)); exact BK371.out) hb); have n2_ := Aside0.mk (below_step (by repeat (first | (with_reducible first | exact HB.out | apply below_alloc | apply pw_below_drewN | apply below_drew1 | refine below_set ?_ GE371.out) | exact HB.out)) hb); have n3_ := Aside0.mk (hbox); have n4_ := Aside0.mk ((by rw [hg]; exact (below_size (by repeat (first | (with_reducible first | exact HB.out | apply below_alloc | apply pw_below_drewN | apply below_drew1 | refine below_set ?_ GE371.out) | exact HB.out))) : w.heap.size ≤ gb378)); have n5_ := Aside0.mk ((by rw [hg]; exact (below_size (by repeat (first | (with_reducible first | exact HB.out | apply below_alloc | apply pw_below_drewN | apply below_drew1 | refine below_set ?_ GE371.out) | exact HB.out))) : w.heap.size ≤ gb378)); have n6_ := Aside0.mk ((by rw [hg]; exact Nat.ne_of_lt (blk_lt (g := gb371) (o := .cells #[.int .i64 t365, .int .i64 t366, .int .i64 t367, .int .i64 t368, .int .i64 t369] 32 (0, 0)) (by (with_reducible repeat (first | refine blk_drewN ?_ _ | refine blk_drew ?_ | refine blk_alloc ?_ _)); exact BK371.out)) : gb371 ≠ gb378)); have n7_ := Aside0.mk ((by rw [hg]; exact Nat.ne_of_gt (blk_lt (g := gb371) (o := .cells #[.int .i64 t365, .int .i64 t366, .int .i64 t367, .int .i64 t368, .int .i64 t369] 32 (0, 0)) (by (with_reducible repeat (first | refine blk_drewN ?_ _ | refine blk_drew ?_ | refine blk_alloc ?_ _)); exact BK371.out)) : gb378 ≠ gb371)); clear HO_12; clear BK371; clear HB; have HO_12 := n0_; have BK371 := n1_; have HB := n2_; have BK378 := n3_; have GW378 := n4_; have GE378 := n5_; have NB371_378 := n6_; have NB378_371 := n7_; clear n0_ n1_ n2_ n3_ n4_ n5_ n6_ n7_; clear hb hbox hg; have hnb36 := NB378_371.out; have hnc36 := NB371_378.out; have hcz37_0 : w35.cell? ⟨gb378, 0, none⟩ = some (.int .i64 0) := (blk_cell BK378.out 0).trans rfl; have hcz37_1 : w35.cell? ⟨gb378, 1, none⟩ = some (.int .i64 0) := (blk_cell BK378.out 1).trans rfl; have hcz37_2 : w35.cell? ⟨gb378, 2, none⟩ = some (.int .i64 0) := (blk_cell BK378.out 2).trans rfl; have hcz37_3 : w35.cell? ⟨gb378, 3, none⟩ = some (.int .i64 0) := (blk_cell BK378.out 3).trans rfl; have hcz37_4 : w35.cell? ⟨gb378, 4, none⟩ = some (.int .i64 0) := (blk_cell BK378.out 4).trans rfl; have hfz37_0 := blk_frozen BK378.out 0; have hfz37_1 := blk_frozen BK378.out 1; have hfz37_2 := blk_frozen BK378.out 2; have hfz37_3 := blk_frozen BK378.out 3; have hfz37_4 := blk_frozen BK378.out 4) | ((with_reducible refine gate_callee (f := 13) rfl ?_); refine goesL_ (some 104) rfl rfl Try.func13 (by kernel_rfl) rfl #[.slice A0 l0.length c0, .slice A1 l1.length c1, .int .i64 a2, .int .i64 a3, .int .i64 a4] rfl (by (try simp only [List.map_toArray, List.map_cons, List.map_nil]); first | done | rfl | (simp only [List.length_drop, List.length_take]; rfl)) ?_; (with_reducible refine (search_At.calls k2 _ _ l0 _ _ l1 a2 a3 a4 t379 t380 t381 t382 t383 t384 _ ?side1 ?side2 ?side3 ?side4 A27.out).mono ?_); (case side1 => exact Kd.C_below HR0.out (by repeat (first | (with_reducible first | exact HB.out | apply below_alloc | apply pw_below_drewN | apply below_drew1 | refine below_set ?_ GE371.out | refine below_set ?_ GE378.out) | exact HB.out))); (case side2 => exact HC0.out); (case side3 => exact Kd.C_below HR1.out (by repeat (first | (with_reducible first | exact HB.out | apply below_alloc | apply pw_below_drewN | apply below_drew1 | refine below_set ?_ GE371.out | refine below_set ?_ GE378.out) | exact HB.out))); (case side4 => exact HC1.out); rintro e w38 ⟨rfl, hb⟩; refine ⟨_, rfl, ?_⟩; have n0_ := Aside0.mk (Kd.R_below (by (with_reducible repeat (first | apply Kd.R_alloc | apply Kd.R_drewN | apply Kd.R_drew)); exact (Kd.R_mono (Kd.R_far (p := ⟨gb378, 4, none⟩) (Kd.R_far (p := ⟨gb378, 3, none⟩) (Kd.R_far (p := ⟨gb378, 2, none⟩) (Kd.R_far (p := ⟨gb378, 1, none⟩) (Kd.R_far (p := ⟨gb378, 0, none⟩) (Kd.R_types HO_12.out BK378.out (by decide)) (fun _ hk => hk.2) (.int .i64 t372)) (fun _ hk => hk.2) (.int .i64 t373)) (fun _ hk => hk.2) (.int .i64 t374)) (fun _ hk => hk.2) (.int .i64 t375)) (fun _ hk => hk.2) (.int .i64 t376)) (fun _ h_ => h_.1))) hb); have n1_ := Aside0.mk (blk_below (g := gb371) (o := .cells #[.int .i64 t365, .int .i64 t366, .int .i64 t367, .int .i64 t368, .int .i64 t369] 32 (0, 0)) (by (with_reducible repeat (first | refine blk_drewN ?_ _ | refine blk_drew ?_ | refine blk_alloc ?_ _)); refine blk_far ?_ NB371_378.out _; (with_reducible repeat (first | refine blk_drewN ?_ _ | refine blk_drew ?_ | refine blk_alloc ?_ _)); refine blk_far ?_ NB371_378.out _; (with_reducible repeat (first | refine blk_drewN ?_ _ | refine blk_drew ?_ | refine blk_alloc ?_ _)); refine blk_far ?_ NB371_378.out _; (with_reducible repeat (first | refine blk_drewN ?_ _ | refine blk_drew ?_ | refine blk_alloc ?_ _)); refine blk_far ?_ NB371_378.out _; (with_reducible repeat (first | refine blk_drewN ?_ _ | refine blk_drew ?_ | refine blk_alloc ?_ _)); refine blk_far ?_ NB371_378.out _; (with_reducible repeat (first | refine blk_drewN ?_ _ | refine blk_drew ?_ | refine blk_alloc ?_ _)); exact BK371.out) hb); have n2_ := Aside0.mk (blk_below (g := gb378) (o := .cells #[.int .i64 t372, .int .i64 t373, .int .i64 t374, .int .i64 t375, .int .i64 t376] 32 (0, 0)) (by (with_reducible repeat (first | refine blk_drewN ?_ _ | refine blk_drew ?_ | refine blk_alloc ?_ _)); refine blk_put (cs := #[.int .i64 t372, .int .i64 t373, .int .i64 t374, .int .i64 t375, .int .i64 0]) ?_ 4 _ rfl; (with_reducible repeat (first | refine blk_drewN ?_ _ | refine blk_drew ?_ | refine blk_alloc ?_ _)); refine blk_put (cs := #[.int .i64 t372, .int .i64 t373, .int .i64 t374, .int .i64 0, .int .i64 0]) ?_ 3 _ rfl; (with_reducible repeat (first | refine blk_drewN ?_ _ | refine blk_drew ?_ | refine blk_alloc ?_ _)); refine blk_put (cs := #[.int .i64 t372, .int .i64 t373, .int .i64 0, .int .i64 0, .int .i64 0]) ?_ 2 _ rfl; (with_reducible repeat (first | refine blk_drewN ?_ _ | refine blk_drew ?_ | refine blk_alloc ?_ _)); refine blk_put (cs := #[.int .i64 t372, .int .i64 0, .int .i64 0, .int .i64 0, .int .i64 0]) ?_ 1 _ rfl; (with_reducible repeat (first | refine blk_drewN ?_ _ | refine blk_drew ?_ | refine blk_alloc ?_ _)); refine blk_put (cs := #[.int .i64 0, .int .i64 0, .int .i64 0, .int .i64 0, .int .i64 0]) ?_ 0 _ rfl; (with_reducible repeat (first | refine blk_drewN ?_ _ | refine blk_drew ?_ | refine blk_alloc ?_ _)); exact BK378.out) hb); have n3_ := Aside0.mk (below_step (by repeat (first | (with_reducible first | exact HB.out | apply below_alloc | apply pw_below_drewN | apply below_drew1 | refine below_set ?_ GE371.out | refine below_set ?_ GE378.out) | exact HB.out)) hb); clear HO_12; clear BK371; clear BK378; clear HB; have HO_12 := n0_; have BK371 := n1_; have BK378 := n2_; have HB := n3_; clear n0_ n1_ n2_ n3_; (try clear hb); (try clear hb2); (try clear hk); (try clear hi)) | ((with_reducible refine gate_dst (N := 18) rfl ?_); (try (refine gate_guard (by rfl) ?_; dsimp only)); refine box_event ?hg (N := 18) ?hd (cs := #[.int .i64 0, .int .i64 0, .int .i64 0, .int .i64 0, .int .i64 0]) (t := 32) ?hr ?_; (case hd => rfl); (case hg => rfl); (case hr => first | (go_simp; done) | (go_simp; rfl)); intro gb385 hg w39 hbox hb; have n0_ := Aside0.mk (Kd.R_below (by (with_reducible repeat (first | apply Kd.R_alloc | apply Kd.R_drewN | apply Kd.R_drew)); exact HO_12.out) hb); have n1_ := Aside0.mk (blk_below (g := gb371) (o := .cells #[.int .i64 t365, .int .i64 t366, .int .i64 t367, .int .i64 t368, .int .i64 t369] 32 (0, 0)) (by (with_reducible repeat (first | refine blk_drewN ?_ _ | refine blk_drew ?_ | refine blk_alloc ?_ _)); exact BK371.out) hb); have n2_ := Aside0.mk (blk_below (g := gb378) (o := .cells #[.int .i64 t372, .int .i64 t373, .int .i64 t374, .int .i64 t375, .int .i64 t376] 32 (0, 0)) (by (with_reducible repeat (first | refine blk_drewN ?_ _ | refine blk_drew ?_ | refine blk_alloc ?_ _)); exact BK378.out) hb); have n3_ := Aside0.mk (below_step (by repeat (first | (with_reducible first | exact HB.out | apply below_alloc | apply pw_below_drewN | apply below_drew1 | refine below_set ?_ GE371.out | refine below_set ?_ GE378.out) | exact HB.out)) hb); have n4_ := Aside0.mk (hbox); have n5_ := Aside0.mk ((by rw [hg]; exact (below_size (by repeat (first | (with_reducible first | exact HB.out | apply below_alloc | apply pw_below_drewN | apply below_drew1 | refine below_set ?_ GE371.out | refine below_set ?_ GE378.out) | exact HB.out))) : w.heap.size ≤ gb385)); have n6_ := Aside0.mk ((by rw [hg]; exact (below_size (by repeat (first | (with_reducible first | exact HB.out | apply below_alloc | apply pw_below_drewN | apply below_drew1 | refine below_set ?_ GE371.out | refine below_set ?_ GE378.out) | exact HB.out))) : w.heap.size ≤ gb385)); have n7_ := Aside0.mk ((by rw [hg]; exact Nat.ne_of_lt (blk_lt (g := gb371) (o := .cells #[.int .i64 t365, .int .i64 t366, .int .i64 t367, .int .i64 t368, .int .i64 t369] 32 (0, 0)) (by (with_reducible repeat (first | refine blk_drewN ?_ _ | refine blk_drew ?_ | refine blk_alloc ?_ _)); exact BK371.out)) : gb371 ≠ gb385)); have n8_ := Aside0.mk ((by rw [hg]; exact Nat.ne_of_gt (blk_lt (g := gb371) (o := .cells #[.int .i64 t365, .int .i64 t366, .int .i64 t367, .int .i64 t368, .int .i64 t369] 32 (0, 0)) (by (with_reducible repeat (first | refine blk_drewN ?_ _ | refine blk_drew ?_ | refine blk_alloc ?_ _)); exact BK371.out)) : gb385 ≠ gb371)); have n9_ := Aside0.mk ((by rw [hg]; exact Nat.ne_of_lt (blk_lt (g := gb378) (o := .cells #[.int .i64 t372, .int .i64 t373, .int .i64 t374, .int .i64 t375, .int .i64 t376] 32 (0, 0)) (by (with_reducible repeat (first | refine blk_drewN ?_ _ | refine blk_drew ?_ | refine blk_alloc ?_ _)); exact BK378.out)) : gb378 ≠ gb385)); have n10_ := Aside0.mk ((by rw [hg]; exact Nat.ne_of_gt (blk_lt (g := gb378) (o := .cells #[.int .i64 t372, .int .i64 t373, .int .i64 t374, .int .i64 t375, .int .i64 t376] 32 (0, 0)) (by (with_reducible repeat (first | refine blk_drewN ?_ _ | refine blk_drew ?_ | refine blk_alloc ?_ _)); exact BK378.out)) : gb385 ≠ gb378)); clear HO_12; clear BK371; clear BK378; clear HB; have HO_12 := n0_; have BK371 := n1_; have BK378 := n2_; have HB := n3_; have BK385 := n4_; have GW385 := n5_; have GE385 := n6_; have NB371_385 := n7_; have NB385_371 := n8_; have NB378_385 := n9_; have NB385_378 := n10_; clear n0_ n1_ n2_ n3_ n4_ n5_ n6_ n7_ n8_ n9_ n10_; clear hb hbox hg; have hnb40 := NB385_371.out; have hnc40 := NB371_385.out; have hnb41 := NB385_378.out; have hnc41 := NB378_385.out; have hcz42_0 : w39.cell? ⟨gb385, 0, none⟩ = some (.int .i64 0) := (blk_cell BK385.out 0).trans rfl; have hcz42_1 : w39.cell? ⟨gb385, 1, none⟩ = some (.int .i64 0) := (blk_cell BK385.out 1).trans rfl; have hcz42_2 : w39.cell? ⟨gb385, 2, none⟩ = some (.int .i64 0) := (blk_cell BK385.out 2).trans rfl; have hcz42_3 : w39.cell? ⟨gb385, 3, none⟩ = some (.int .i64 0) := (blk_cell BK385.out 3).trans rfl; have hcz42_4 : w39.cell? ⟨gb385, 4, none⟩ = some (.int .i64 0) := (blk_cell BK385.out 4).trans rfl; have hfz42_0 := blk_frozen BK385.out 0; have hfz42_1 := blk_frozen BK385.out 1; have hfz42_2 := blk_frozen BK385.out 2; have hfz42_3 := blk_frozen BK385.out 3; have hfz42_4 := blk_frozen BK385.out 4) | ((with_reducible refine gate_callee (f := 15) rfl ?_); refine goesL_ (some 111) rfl rfl Try.func15 (by kernel_rfl) rfl #[.slice A0 l0.length c0, .int .i64 a3, .int .i64 a4] rfl (by (try simp only [List.map_toArray, List.map_cons, List.map_nil]); first | done | rfl | (simp only [List.length_drop, List.length_take]; rfl)) ?_; (with_reducible refine (search_Stop.calls k2 _ _ l0 a3 a4 t386 t387 _ ?side1 ?side2 A28.out).mono ?_); (case side1 => exact Kd.C_below HR0.out (by repeat (first | (with_reducible first | exact HB.out | apply below_alloc | apply pw_below_drewN | apply below_drew1 | refine below_set ?_ GE371.out | refine below_set ?_ GE378.out | refine below_set ?_ GE385.out) | exact HB.out))); (case side2 => exact HC0.out); rintro e w43 ⟨v388, rfl, ho0, hb⟩; refine ⟨_, rfl, ?_⟩; have n0_ := Aside0.mk (Kd.R_below (by (with_reducible repeat (first | apply Kd.R_alloc | apply Kd.R_drewN | apply Kd.R_drew)); exact (Kd.R_mono (Kd.R_far (p := ⟨gb385, 4, none⟩) (Kd.R_far (p := ⟨gb385, 3, none⟩) (Kd.R_far (p := ⟨gb385, 2, none⟩) (Kd.R_far (p := ⟨gb385, 1, none⟩) (Kd.R_far (p := ⟨gb385, 0, none⟩) (Kd.R_types HO_12.out BK385.out (by decide)) (fun _ hk => hk.2) (.int .i64 t379)) (fun _ hk => hk.2) (.int .i64 t380)) (fun _ hk => hk.2) (.int .i64 t381)) (fun _ hk => hk.2) (.int .i64 t382)) (fun _ hk => hk.2) (.int .i64 t383)) (fun _ h_ => h_.1))) hb); have n1_ := Aside0.mk (Kd.R_lower ho0 (below_size (by repeat (first | (with_reducible first | exact HB.out | apply below_alloc | apply pw_below_drewN | apply below_drew1 | refine below_set ?_ GE371.out | refine below_set ?_ GE378.out | refine below_set ?_ GE385.out) | exact HB.out)))); have n2_ := Aside0.mk (blk_below (g := gb371) (o := .cells #[.int .i64 t365, .int .i64 t366, .int .i64 t367, .int .i64 t368, .int .i64 t369] 32 (0, 0)) (by (with_reducible repeat (first | refine blk_drewN ?_ _ | refine blk_drew ?_ | refine blk_alloc ?_ _)); refine blk_far ?_ NB371_385.out _; (with_reducible repeat (first | refine blk_drewN ?_ _ | refine blk_drew ?_ | refine blk_alloc ?_ _)); refine blk_far ?_ NB371_385.out _; (with_reducible repeat (first | refine blk_drewN ?_ _ | refine blk_drew ?_ | refine blk_alloc ?_ _)); refine blk_far ?_ NB371_385.out _; (with_reducible repeat (first | refine blk_drewN ?_ _ | refine blk_drew ?_ | refine blk_alloc ?_ _)); refine blk_far ?_ NB371_385.out _; (with_reducible repeat (first | refine blk_drewN ?_ _ | refine blk_drew ?_ | refine blk_alloc ?_ _)); refine blk_far ?_ NB371_385.out _; (with_reducible repeat (first | refine blk_drewN ?_ _ | refine blk_drew ?_ | refine blk_alloc ?_ _)); exact BK371.out) hb); have n3_ := Aside0.mk (blk_below (g := gb378) (o := .cells #[.int .i64 t372, .int .i64 t373, .int .i64 t374, .int .i64 t375, .int .i64 t376] 32 (0, 0)) (by (with_reducible repeat (first | refine blk_drewN ?_ _ | refine blk_drew ?_ | refine blk_alloc ?_ _)); refine blk_far ?_ NB378_385.out _; (with_reducible repeat (first | refine blk_drewN ?_ _ | refine blk_drew ?_ | refine blk_alloc ?_ _)); refine blk_far ?_ NB378_385.out _; (with_reducible repeat (first | refine blk_drewN ?_ _ | refine blk_drew ?_ | refine blk_alloc ?_ _)); refine blk_far ?_ NB378_385.out _; (with_reducible repeat (first | refine blk_drewN ?_ _ | refine blk_drew ?_ | refine blk_alloc ?_ _)); refine blk_far ?_ NB378_385.out _; (with_reducible repeat (first | refine blk_drewN ?_ _ | refine blk_drew ?_ | refine blk_alloc ?_ _)); refine blk_far ?_ NB378_385.out _; (with_reducible repeat (first | refine blk_drewN ?_ _ | refine blk_drew ?_ | refine blk_alloc ?_ _)); exact BK378.out) hb); have n4_ := Aside0.mk (blk_below (g := gb385) (o := .cells #[.int .i64 t379, .int .i64 t380, .int .i64 t381, .int .i64 t382, .int .i64 t383] 32 (0, 0)) (by (with_reducible repeat (first | refine blk_drewN ?_ _ | refine blk_drew ?_ | refine blk_alloc ?_ _)); refine blk_put (cs := #[.int .i64 t379, .int .i64 t380, .int .i64 t381, .int .i64 t382, .int .i64 0]) ?_ 4 _ rfl; (with_reducible repeat (first | refine blk_drewN ?_ _ | refine blk_drew ?_ | refine blk_alloc ?_ _)); refine blk_put (cs := #[.int .i64 t379, .int .i64 t380, .int .i64 t381, .int .i64 0, .int .i64 0]) ?_ 3 _ rfl; (with_reducible repeat (first | refine blk_drewN ?_ _ | refine blk_drew ?_ | refine blk_alloc ?_ _)); refine blk_put (cs := #[.int .i64 t379, .int .i64 t380, .int .i64 0, .int .i64 0, .int .i64 0]) ?_ 2 _ rfl; (with_reducible repeat (first | refine blk_drewN ?_ _ | refine blk_drew ?_ | refine blk_alloc ?_ _)); refine blk_put (cs := #[.int .i64 t379, .int .i64 0, .int .i64 0, .int .i64 0, .int .i64 0]) ?_ 1 _ rfl; (with_reducible repeat (first | refine blk_drewN ?_ _ | refine blk_drew ?_ | refine blk_alloc ?_ _)); refine blk_put (cs := #[.int .i64 0, .int .i64 0, .int .i64 0, .int .i64 0, .int .i64 0]) ?_ 0 _ rfl; (with_reducible repeat (first | refine blk_drewN ?_ _ | refine blk_drew ?_ | refine blk_alloc ?_ _)); exact BK385.out) hb); have n5_ := Aside0.mk (below_step (by repeat (first | (with_reducible first | exact HB.out | apply below_alloc | apply pw_below_drewN | apply below_drew1 | refine below_set ?_ GE371.out | refine below_set ?_ GE378.out | refine below_set ?_ GE385.out) | exact HB.out)) hb); clear HO_12; clear BK371; clear BK378; clear BK385; clear HB; have HO_12 := n0_; have HO389 := n1_; have BK371 := n2_; have BK378 := n3_; have BK385 := n4_; have HB := n5_; clear n0_ n1_ n2_ n3_ n4_ n5_; (try clear hb); (try clear hb2); (try clear hk); (try clear hi); (try clear ho0)))
              (try simp only [Act.put, List.setIfInBounds_toArray, List.set_cons_zero, List.set_cons_succ])
              go_cut [148] (fun v148 wc => ∃ (kq : Nat) (x148_28 : Bool), v148 = .bool x148_28 ∧ Aside0 (fringelaw20_SearchTurns.j2 kq l0 l1 a2 t355 t386 x148_28 t379 t380 t381 t382 t383 = some r) ∧ Aside0 (kq ≤ k2) ∧ Aside0 (Kd.R k23 23 wc w.heap.size (fun _ => True) v388 t386) ∧ Aside0 (wc.heap[gb371]? = some (.cells #[.int .i64 t365, .int .i64 t366, .int .i64 t367, .int .i64 t368, .int .i64 t369] 32 (0, 0))) ∧ Aside0 (wc.heap[gb378]? = some (.cells #[.int .i64 t372, .int .i64 t373, .int .i64 t374, .int .i64 t375, .int .i64 t376] 32 (0, 0))) ∧ Aside0 (wc.heap[gb385]? = some (.cells #[.int .i64 t379, .int .i64 t380, .int .i64 t381, .int .i64 t382, .int .i64 t383] 32 (0, 0))) ∧ Aside0 (Below w.heap.size w wc))
              case first =>
                have H := HC29.out
                clear HC29
                by_cases c44 : t370 = 0
                · rw [if_pos c44] at H
                  have c44b0 : (t370 == 0) = true := beq_iff_eq.mpr c44
                  have c44b1 : (t370 != 0) = false := bne_eq_false_iff_eq.mpr c44
                  clear c44
                  (first | rw [c44b0] | (simp only [i64_w, i32_w]; rw [c44b0]) | skip)
                  by_cases c45 : t377 = 0
                  · rw [if_pos c45] at H
                    have c45b0 : (t377 == 0) = true := beq_iff_eq.mpr c45
                    have c45b1 : (t377 != 0) = false := bne_eq_false_iff_eq.mpr c45
                    clear c45
                    by_cases c46 : t384 = 0
                    · rw [if_pos c46] at H
                      have c46b0 : (t384 == 0) = true := beq_iff_eq.mpr c46
                      have c46b1 : (t384 != 0) = false := bne_eq_false_iff_eq.mpr c46
                      clear c46
                      by_cases c47 : t387 = 0
                      · rw [if_pos c47] at H
                        have c47b0 : (t387 == 0) = true := beq_iff_eq.mpr c47
                        have c47b1 : (t387 != 0) = false := bne_eq_false_iff_eq.mpr c47
                        clear c47
                        by_cases c48 : (!(t367 == t374) || (!(t368 == t375))) = true
                        · rw [if_pos c48] at H
                          have c48b0 : (!(t367 == t374) || (!(t368 == t375))) = true := c48
                          clear c48
                          have H' := Aside0.mk H
                          clear H
                          have hnb49 := NB371_378.out
                          have hnc49 := NB378_371.out
                          have hnb50 := NB371_385.out
                          have hnc50 := NB385_371.out
                          have hcz51_0 : w43.cell? ⟨gb371, 0, none⟩ = some (.int .i64 t365) := (blk_cell BK371.out 0).trans rfl
                          have hcz51_1 : w43.cell? ⟨gb371, 1, none⟩ = some (.int .i64 t366) := (blk_cell BK371.out 1).trans rfl
                          have hcz51_2 : w43.cell? ⟨gb371, 2, none⟩ = some (.int .i64 t367) := (blk_cell BK371.out 2).trans rfl
                          have hcz51_3 : w43.cell? ⟨gb371, 3, none⟩ = some (.int .i64 t368) := (blk_cell BK371.out 3).trans rfl
                          have hcz51_4 : w43.cell? ⟨gb371, 4, none⟩ = some (.int .i64 t369) := (blk_cell BK371.out 4).trans rfl
                          have hfz51_0 := blk_frozen BK371.out 0
                          have hfz51_1 := blk_frozen BK371.out 1
                          have hfz51_2 := blk_frozen BK371.out 2
                          have hfz51_3 := blk_frozen BK371.out 3
                          have hfz51_4 := blk_frozen BK371.out 4
                          have hnb52 := NB378_385.out
                          have hnc52 := NB385_378.out
                          have hcz53_0 : w43.cell? ⟨gb378, 0, none⟩ = some (.int .i64 t372) := (blk_cell BK378.out 0).trans rfl
                          have hcz53_1 : w43.cell? ⟨gb378, 1, none⟩ = some (.int .i64 t373) := (blk_cell BK378.out 1).trans rfl
                          have hcz53_2 : w43.cell? ⟨gb378, 2, none⟩ = some (.int .i64 t374) := (blk_cell BK378.out 2).trans rfl
                          have hcz53_3 : w43.cell? ⟨gb378, 3, none⟩ = some (.int .i64 t375) := (blk_cell BK378.out 3).trans rfl
                          have hcz53_4 : w43.cell? ⟨gb378, 4, none⟩ = some (.int .i64 t376) := (blk_cell BK378.out 4).trans rfl
                          have hfz53_0 := blk_frozen BK378.out 0
                          have hfz53_1 := blk_frozen BK378.out 1
                          have hfz53_2 := blk_frozen BK378.out 2
                          have hfz53_3 := blk_frozen BK378.out 3
                          have hfz53_4 := blk_frozen BK378.out 4
                          go_wp2
                          go_meet
                          case rel => exact ⟨_, (true), (by first | rfl | (simp; done) | (simp [*]; done)), H', ⟨by have := HJ6.out; have := HK2.out; first | omega | exact Nat.le_refl _⟩, ⟨by (with_reducible repeat (first | apply Kd.R_alloc | apply Kd.R_drewN | apply Kd.R_drew)); exact HO389.out⟩, ⟨by (with_reducible repeat (first | refine blk_drewN ?_ _ | refine blk_drew ?_ | refine blk_alloc ?_ _)); exact BK371.out⟩, ⟨by (with_reducible repeat (first | refine blk_drewN ?_ _ | refine blk_drew ?_ | refine blk_alloc ?_ _)); exact BK378.out⟩, ⟨by (with_reducible repeat (first | refine blk_drewN ?_ _ | refine blk_drew ?_ | refine blk_alloc ?_ _)); exact BK385.out⟩, ⟨by repeat (first | (with_reducible first | exact HB.out | apply below_alloc | apply pw_below_drewN | apply below_drew1 | refine below_set ?_ GE371.out | refine below_set ?_ GE378.out | refine below_set ?_ GE385.out) | exact HB.out)⟩⟩
                        · rw [if_neg c48] at H
                          have c48b0 : (!(t367 == t374) || (!(t368 == t375))) = false := by simpa using c48
                          clear c48
                          by_cases c54 : t369 = t376
                          · rw [if_pos c54] at H
                            have c54b0 : (t369 == t376) = true := beq_iff_eq.mpr c54
                            have c54b1 : (t369 != t376) = false := bne_eq_false_iff_eq.mpr c54
                            clear c54
                            have H' := Aside0.mk H
                            clear H
                            have hnb55 := NB371_378.out
                            have hnc55 := NB378_371.out
                            have hnb56 := NB371_385.out
                            have hnc56 := NB385_371.out
                            have hcz57_0 : w43.cell? ⟨gb371, 0, none⟩ = some (.int .i64 t365) := (blk_cell BK371.out 0).trans rfl
                            have hcz57_1 : w43.cell? ⟨gb371, 1, none⟩ = some (.int .i64 t366) := (blk_cell BK371.out 1).trans rfl
                            have hcz57_2 : w43.cell? ⟨gb371, 2, none⟩ = some (.int .i64 t367) := (blk_cell BK371.out 2).trans rfl
                            have hcz57_3 : w43.cell? ⟨gb371, 3, none⟩ = some (.int .i64 t368) := (blk_cell BK371.out 3).trans rfl
                            have hcz57_4 : w43.cell? ⟨gb371, 4, none⟩ = some (.int .i64 t369) := (blk_cell BK371.out 4).trans rfl
                            have hfz57_0 := blk_frozen BK371.out 0
                            have hfz57_1 := blk_frozen BK371.out 1
                            have hfz57_2 := blk_frozen BK371.out 2
                            have hfz57_3 := blk_frozen BK371.out 3
                            have hfz57_4 := blk_frozen BK371.out 4
                            have hnb58 := NB378_385.out
                            have hnc58 := NB385_378.out
                            have hcz59_0 : w43.cell? ⟨gb378, 0, none⟩ = some (.int .i64 t372) := (blk_cell BK378.out 0).trans rfl
                            have hcz59_1 : w43.cell? ⟨gb378, 1, none⟩ = some (.int .i64 t373) := (blk_cell BK378.out 1).trans rfl
                            have hcz59_2 : w43.cell? ⟨gb378, 2, none⟩ = some (.int .i64 t374) := (blk_cell BK378.out 2).trans rfl
                            have hcz59_3 : w43.cell? ⟨gb378, 3, none⟩ = some (.int .i64 t375) := (blk_cell BK378.out 3).trans rfl
                            have hcz59_4 : w43.cell? ⟨gb378, 4, none⟩ = some (.int .i64 t376) := (blk_cell BK378.out 4).trans rfl
                            have hfz59_0 := blk_frozen BK378.out 0
                            have hfz59_1 := blk_frozen BK378.out 1
                            have hfz59_2 := blk_frozen BK378.out 2
                            have hfz59_3 := blk_frozen BK378.out 3
                            have hfz59_4 := blk_frozen BK378.out 4
                            obtain ⟨Ao60, co60, eo60⟩ := Kd.R_slice HO389.out
                            subst eo60
                            go_wp2
                            go_meet
                            case rel => exact ⟨_, (((t386.length : Int) != (l0.length : Int))), (by first | rfl | (simp; done) | (simp [*]; done)), H', ⟨by have := HJ6.out; have := HK2.out; first | omega | exact Nat.le_refl _⟩, ⟨by (with_reducible repeat (first | apply Kd.R_alloc | apply Kd.R_drewN | apply Kd.R_drew)); exact HO389.out⟩, ⟨by (with_reducible repeat (first | refine blk_drewN ?_ _ | refine blk_drew ?_ | refine blk_alloc ?_ _)); exact BK371.out⟩, ⟨by (with_reducible repeat (first | refine blk_drewN ?_ _ | refine blk_drew ?_ | refine blk_alloc ?_ _)); exact BK378.out⟩, ⟨by (with_reducible repeat (first | refine blk_drewN ?_ _ | refine blk_drew ?_ | refine blk_alloc ?_ _)); exact BK385.out⟩, ⟨by repeat (first | (with_reducible first | exact HB.out | apply below_alloc | apply pw_below_drewN | apply below_drew1 | refine below_set ?_ GE371.out | refine below_set ?_ GE378.out | refine below_set ?_ GE385.out) | exact HB.out)⟩⟩
                          · rw [if_neg c54] at H
                            have c54b0 : (t369 == t376) = false := beq_eq_false_iff_ne.mpr c54
                            have c54b1 : (t369 != t376) = true := bne_iff_ne.mpr c54
                            have H' := Aside0.mk H
                            clear H
                            have hnb61 := NB371_378.out
                            have hnc61 := NB378_371.out
                            have hnb62 := NB371_385.out
                            have hnc62 := NB385_371.out
                            have hcz63_0 : w43.cell? ⟨gb371, 0, none⟩ = some (.int .i64 t365) := (blk_cell BK371.out 0).trans rfl
                            have hcz63_1 : w43.cell? ⟨gb371, 1, none⟩ = some (.int .i64 t366) := (blk_cell BK371.out 1).trans rfl
                            have hcz63_2 : w43.cell? ⟨gb371, 2, none⟩ = some (.int .i64 t367) := (blk_cell BK371.out 2).trans rfl
                            have hcz63_3 : w43.cell? ⟨gb371, 3, none⟩ = some (.int .i64 t368) := (blk_cell BK371.out 3).trans rfl
                            have hcz63_4 : w43.cell? ⟨gb371, 4, none⟩ = some (.int .i64 t369) := (blk_cell BK371.out 4).trans rfl
                            have hfz63_0 := blk_frozen BK371.out 0
                            have hfz63_1 := blk_frozen BK371.out 1
                            have hfz63_2 := blk_frozen BK371.out 2
                            have hfz63_3 := blk_frozen BK371.out 3
                            have hfz63_4 := blk_frozen BK371.out 4
                            have hnb64 := NB378_385.out
                            have hnc64 := NB385_378.out
                            have hcz65_0 : w43.cell? ⟨gb378, 0, none⟩ = some (.int .i64 t372) := (blk_cell BK378.out 0).trans rfl
                            have hcz65_1 : w43.cell? ⟨gb378, 1, none⟩ = some (.int .i64 t373) := (blk_cell BK378.out 1).trans rfl
                            have hcz65_2 : w43.cell? ⟨gb378, 2, none⟩ = some (.int .i64 t374) := (blk_cell BK378.out 2).trans rfl
                            have hcz65_3 : w43.cell? ⟨gb378, 3, none⟩ = some (.int .i64 t375) := (blk_cell BK378.out 3).trans rfl
                            have hcz65_4 : w43.cell? ⟨gb378, 4, none⟩ = some (.int .i64 t376) := (blk_cell BK378.out 4).trans rfl
                            have hfz65_0 := blk_frozen BK378.out 0
                            have hfz65_1 := blk_frozen BK378.out 1
                            have hfz65_2 := blk_frozen BK378.out 2
                            have hfz65_3 := blk_frozen BK378.out 3
                            have hfz65_4 := blk_frozen BK378.out 4
                            go_wp2
                            go_meet
                            case rel => exact ⟨_, (true), (by first | rfl | (simp; done) | (simp [*]; done)), H', ⟨by have := HJ6.out; have := HK2.out; first | omega | exact Nat.le_refl _⟩, ⟨by (with_reducible repeat (first | apply Kd.R_alloc | apply Kd.R_drewN | apply Kd.R_drew)); exact HO389.out⟩, ⟨by (with_reducible repeat (first | refine blk_drewN ?_ _ | refine blk_drew ?_ | refine blk_alloc ?_ _)); exact BK371.out⟩, ⟨by (with_reducible repeat (first | refine blk_drewN ?_ _ | refine blk_drew ?_ | refine blk_alloc ?_ _)); exact BK378.out⟩, ⟨by (with_reducible repeat (first | refine blk_drewN ?_ _ | refine blk_drew ?_ | refine blk_alloc ?_ _)); exact BK385.out⟩, ⟨by repeat (first | (with_reducible first | exact HB.out | apply below_alloc | apply pw_below_drewN | apply below_drew1 | refine below_set ?_ GE371.out | refine below_set ?_ GE378.out | refine below_set ?_ GE385.out) | exact HB.out)⟩⟩
                      · rw [if_neg c47] at H
                        have c47b0 : (t387 == 0) = false := beq_eq_false_iff_ne.mpr c47
                        have c47b1 : (t387 != 0) = true := bne_iff_ne.mpr c47
                        have H' := Aside0.mk H
                        clear H
                        go_wp2
                        go_meet
                        case rel => exact ⟨_, (true), (by first | rfl | (simp; done) | (simp [*]; done)), H', ⟨by have := HJ6.out; have := HK2.out; first | omega | exact Nat.le_refl _⟩, ⟨by (with_reducible repeat (first | apply Kd.R_alloc | apply Kd.R_drewN | apply Kd.R_drew)); exact HO389.out⟩, ⟨by (with_reducible repeat (first | refine blk_drewN ?_ _ | refine blk_drew ?_ | refine blk_alloc ?_ _)); exact BK371.out⟩, ⟨by (with_reducible repeat (first | refine blk_drewN ?_ _ | refine blk_drew ?_ | refine blk_alloc ?_ _)); exact BK378.out⟩, ⟨by (with_reducible repeat (first | refine blk_drewN ?_ _ | refine blk_drew ?_ | refine blk_alloc ?_ _)); exact BK385.out⟩, ⟨by repeat (first | (with_reducible first | exact HB.out | apply below_alloc | apply pw_below_drewN | apply below_drew1 | refine below_set ?_ GE371.out | refine below_set ?_ GE378.out | refine below_set ?_ GE385.out) | exact HB.out)⟩⟩
                    · rw [if_neg c46] at H
                      have c46b0 : (t384 == 0) = false := beq_eq_false_iff_ne.mpr c46
                      have c46b1 : (t384 != 0) = true := bne_iff_ne.mpr c46
                      have H' := Aside0.mk H
                      clear H
                      go_wp2
                      go_meet
                      case rel => exact ⟨_, (true), (by first | rfl | (simp; done) | (simp [*]; done)), H', ⟨by have := HJ6.out; have := HK2.out; first | omega | exact Nat.le_refl _⟩, ⟨by (with_reducible repeat (first | apply Kd.R_alloc | apply Kd.R_drewN | apply Kd.R_drew)); exact HO389.out⟩, ⟨by (with_reducible repeat (first | refine blk_drewN ?_ _ | refine blk_drew ?_ | refine blk_alloc ?_ _)); exact BK371.out⟩, ⟨by (with_reducible repeat (first | refine blk_drewN ?_ _ | refine blk_drew ?_ | refine blk_alloc ?_ _)); exact BK378.out⟩, ⟨by (with_reducible repeat (first | refine blk_drewN ?_ _ | refine blk_drew ?_ | refine blk_alloc ?_ _)); exact BK385.out⟩, ⟨by repeat (first | (with_reducible first | exact HB.out | apply below_alloc | apply pw_below_drewN | apply below_drew1 | refine below_set ?_ GE371.out | refine below_set ?_ GE378.out | refine below_set ?_ GE385.out) | exact HB.out)⟩⟩
                  · rw [if_neg c45] at H
                    have c45b0 : (t377 == 0) = false := beq_eq_false_iff_ne.mpr c45
                    have c45b1 : (t377 != 0) = true := bne_iff_ne.mpr c45
                    have H' := Aside0.mk H
                    clear H
                    go_wp2
                    go_meet
                    case rel => exact ⟨_, (true), (by first | rfl | (simp; done) | (simp [*]; done)), H', ⟨by have := HJ6.out; have := HK2.out; first | omega | exact Nat.le_refl _⟩, ⟨by (with_reducible repeat (first | apply Kd.R_alloc | apply Kd.R_drewN | apply Kd.R_drew)); exact HO389.out⟩, ⟨by (with_reducible repeat (first | refine blk_drewN ?_ _ | refine blk_drew ?_ | refine blk_alloc ?_ _)); exact BK371.out⟩, ⟨by (with_reducible repeat (first | refine blk_drewN ?_ _ | refine blk_drew ?_ | refine blk_alloc ?_ _)); exact BK378.out⟩, ⟨by (with_reducible repeat (first | refine blk_drewN ?_ _ | refine blk_drew ?_ | refine blk_alloc ?_ _)); exact BK385.out⟩, ⟨by repeat (first | (with_reducible first | exact HB.out | apply below_alloc | apply pw_below_drewN | apply below_drew1 | refine below_set ?_ GE371.out | refine below_set ?_ GE378.out | refine below_set ?_ GE385.out) | exact HB.out)⟩⟩
                · rw [if_neg c44] at H
                  have c44b0 : (t370 == 0) = false := beq_eq_false_iff_ne.mpr c44
                  have c44b1 : (t370 != 0) = true := bne_iff_ne.mpr c44
                  (first | rw [c44b0] | (simp only [i64_w, i32_w]; rw [c44b0]) | skip)
                  have H' := Aside0.mk H
                  clear H
                  go_wp2
                  go_meet
                  case rel => exact ⟨_, (true), (by first | rfl | (simp; done) | (simp [*]; done)), H', ⟨by have := HJ6.out; have := HK2.out; first | omega | exact Nat.le_refl _⟩, ⟨by (with_reducible repeat (first | apply Kd.R_alloc | apply Kd.R_drewN | apply Kd.R_drew)); exact HO389.out⟩, ⟨by (with_reducible repeat (first | refine blk_drewN ?_ _ | refine blk_drew ?_ | refine blk_alloc ?_ _)); exact BK371.out⟩, ⟨by (with_reducible repeat (first | refine blk_drewN ?_ _ | refine blk_drew ?_ | refine blk_alloc ?_ _)); exact BK378.out⟩, ⟨by (with_reducible repeat (first | refine blk_drewN ?_ _ | refine blk_drew ?_ | refine blk_alloc ?_ _)); exact BK385.out⟩, ⟨by repeat (first | (with_reducible first | exact HB.out | apply below_alloc | apply pw_below_drewN | apply below_drew1 | refine below_set ?_ GE371.out | refine below_set ?_ GE378.out | refine below_set ?_ GE385.out) | exact HB.out)⟩⟩
              case rest =>
                clear HC29
                try clear c1
                try clear c2
                try clear p2
                try clear c3
                try clear p3
                try clear q3
                try clear hx3
                try clear c4
                try clear c5
                try clear c6
                try clear p6
                try clear c7
                try clear c10
                try clear c11
                try clear c11b0
                try clear c12
                try clear c12b0
                try clear c13
                try clear c13b0
                try clear c14
                try clear c14b0
                try clear c15
                try clear c16
                try clear c16b0
                try clear c17
                try clear c17b0
                try clear c17b1
                try clear c18
                try clear c18b0
                try clear c18b1
                try clear c19
                try clear c19b0
                try clear c20
                try clear c22
                try clear c22b0
                try clear c23
                try clear c24
                try clear c25
                try clear p35
                try clear q35
                try clear hx35
                try clear c36
                try clear p36
                try clear q36
                try clear hx36
                try clear c40
                try clear c41
                try clear c44
                try clear c44b0
                try clear c44b1
                try clear c45
                try clear c45b0
                try clear c45b1
                try clear c46
                try clear c46b0
                try clear c46b1
                try clear c47
                try clear c47b0
                try clear c47b1
                try clear c48
                try clear c48b0
                try clear c49
                try clear c50
                try clear c52
                try clear c54
                try clear c54b0
                try clear c54b1
                try clear c55
                try clear c56
                try clear c58
                try clear c61
                try clear c62
                try clear c64
                try clear p64
                try clear hcz32_0
                try clear hcz32_1
                try clear hcz32_2
                try clear hcz32_3
                try clear hcz32_4
                try clear hcz37_0
                try clear hcz37_1
                try clear hcz37_2
                try clear hcz37_3
                try clear hcz37_4
                try clear hcz42_0
                try clear hcz42_1
                try clear hcz42_2
                try clear hcz42_3
                try clear hcz42_4
                try clear hcz51_0
                try clear hcz51_1
                try clear hcz51_2
                try clear hcz51_3
                try clear hcz51_4
                try clear hcz53_0
                try clear hcz53_1
                try clear hcz53_2
                try clear hcz53_3
                try clear hcz53_4
                try clear hcz57_0
                try clear hcz57_1
                try clear hcz57_2
                try clear hcz57_3
                try clear hcz57_4
                try clear hcz59_0
                try clear hcz59_1
                try clear hcz59_2
                try clear hcz59_3
                try clear hcz59_4
                try clear hcz63_0
                try clear hcz63_1
                try clear hcz63_2
                try clear hcz63_3
                try clear hcz63_4
                try clear hcz65_0
                try clear hcz65_1
                try clear hcz65_2
                try clear hcz65_3
                try clear hcz65_4
                try clear hfz32_0
                try clear hfz32_1
                try clear hfz32_2
                try clear hfz32_3
                try clear hfz32_4
                try clear hfz37_0
                try clear hfz37_1
                try clear hfz37_2
                try clear hfz37_3
                try clear hfz37_4
                try clear hfz42_0
                try clear hfz42_1
                try clear hfz42_2
                try clear hfz42_3
                try clear hfz42_4
                try clear hfz51_0
                try clear hfz51_1
                try clear hfz51_2
                try clear hfz51_3
                try clear hfz51_4
                try clear hfz53_0
                try clear hfz53_1
                try clear hfz53_2
                try clear hfz53_3
                try clear hfz53_4
                try clear hfz57_0
                try clear hfz57_1
                try clear hfz57_2
                try clear hfz57_3
                try clear hfz57_4
                try clear hfz59_0
                try clear hfz59_1
                try clear hfz59_2
                try clear hfz59_3
                try clear hfz59_4
                try clear hfz63_0
                try clear hfz63_1
                try clear hfz63_2
                try clear hfz63_3
                try clear hfz63_4
                try clear hfz65_0
                try clear hfz65_1
                try clear hfz65_2
                try clear hfz65_3
                try clear hfz65_4
                try clear hx357_0
                try clear hx361_0
                try clear p2
                try clear p357
                try clear p361
                try clear q357
                try clear q361
                obtain ⟨kq, x148_28, rfl, HA, HJ28, HO_20, BK371, BK378, BK385, HB⟩ := hcut
                cases kq with
                | zero => exact absurd HA.out (by simp [fringelaw20_SearchTurns.j2])
                | succ kj28 =>
                  have H := HA.out
                  clear HA
                  simp only [fringelaw20_SearchTurns.j2] at H
                  by_cases c66 : x148_28 = true
                  · subst c66
                    have H1 : (some false) = some r := by rw [if_pos rfl] at H; exact H
                    clear H
                    have H := H1
                    clear H1
                    exact absurd ((Option.some.inj H).trans HRT.out) (by decide)
                  · replace c66 := Bool.eq_false_iff.mpr c66
                    subst c66
                    have H1 : (fringelaw20_SearchTurns.l1 kj28 l0 l1 a2 t355 t386 0 t379 t380 t381 t382 t383 0 0) = some r := by rw [if_neg (show ¬ (false = true) by decide)] at H; exact H
                    clear H
                    have H := H1
                    clear H1
                    have H' := Aside0.mk H
                    clear H
                    go_wp2_with (first | ((with_reducible refine gate_dst (N := 22) rfl ?_); (try (refine gate_guard (by rfl) ?_; dsimp only)); refine box_event ?hg (N := 22) ?hd (cs := #[.int .i64 0, .int .i64 0]) (t := 23) ?hr ?_; (case hd => rfl); (case hg => rfl); (case hr => first | (go_simp; done) | (go_simp; rfl)); intro gb390 hg w67 hbox hb; have n0_ := Aside0.mk (Kd.R_below (Kd.R_elderB (by (with_reducible repeat (first | apply Kd.R_alloc | apply Kd.R_drewN | apply Kd.R_drew)); exact HO_20.out) gb390 (Nat.le_of_eq hg.symm)) hb); have n1_ := Aside0.mk (blk_below (g := gb371) (o := .cells #[.int .i64 t365, .int .i64 t366, .int .i64 t367, .int .i64 t368, .int .i64 t369] 32 (0, 0)) (by (with_reducible repeat (first | refine blk_drewN ?_ _ | refine blk_drew ?_ | refine blk_alloc ?_ _)); exact BK371.out) hb); have n2_ := Aside0.mk (blk_below (g := gb378) (o := .cells #[.int .i64 t372, .int .i64 t373, .int .i64 t374, .int .i64 t375, .int .i64 t376] 32 (0, 0)) (by (with_reducible repeat (first | refine blk_drewN ?_ _ | refine blk_drew ?_ | refine blk_alloc ?_ _)); exact BK378.out) hb); have n3_ := Aside0.mk (blk_below (g := gb385) (o := .cells #[.int .i64 t379, .int .i64 t380, .int .i64 t381, .int .i64 t382, .int .i64 t383] 32 (0, 0)) (by (with_reducible repeat (first | refine blk_drewN ?_ _ | refine blk_drew ?_ | refine blk_alloc ?_ _)); exact BK385.out) hb); have n4_ := Aside0.mk (below_step (by repeat (first | (with_reducible first | exact HB.out | apply below_alloc | apply pw_below_drewN | apply below_drew1 | refine below_set ?_ GE371.out | refine below_set ?_ GE378.out | refine below_set ?_ GE385.out) | exact HB.out)) hb); have n5_ := Aside0.mk (hbox); have n6_ := Aside0.mk ((by rw [hg]; exact (below_size (by repeat (first | (with_reducible first | exact HB.out | apply below_alloc | apply pw_below_drewN | apply below_drew1 | refine below_set ?_ GE371.out | refine below_set ?_ GE378.out | refine below_set ?_ GE385.out) | exact HB.out))) : w.heap.size ≤ gb390)); have n7_ := Aside0.mk ((by rw [hg]; exact (below_size (by repeat (first | (with_reducible first | exact HB.out | apply below_alloc | apply pw_below_drewN | apply below_drew1 | refine below_set ?_ GE371.out | refine below_set ?_ GE378.out | refine below_set ?_ GE385.out) | exact HB.out))) : w.heap.size ≤ gb390)); have n8_ := Aside0.mk ((by rw [hg]; exact Nat.ne_of_lt (blk_lt (g := gb371) (o := .cells #[.int .i64 t365, .int .i64 t366, .int .i64 t367, .int .i64 t368, .int .i64 t369] 32 (0, 0)) (by (with_reducible repeat (first | refine blk_drewN ?_ _ | refine blk_drew ?_ | refine blk_alloc ?_ _)); exact BK371.out)) : gb371 ≠ gb390)); have n9_ := Aside0.mk ((by rw [hg]; exact Nat.ne_of_gt (blk_lt (g := gb371) (o := .cells #[.int .i64 t365, .int .i64 t366, .int .i64 t367, .int .i64 t368, .int .i64 t369] 32 (0, 0)) (by (with_reducible repeat (first | refine blk_drewN ?_ _ | refine blk_drew ?_ | refine blk_alloc ?_ _)); exact BK371.out)) : gb390 ≠ gb371)); have n10_ := Aside0.mk ((by rw [hg]; exact Nat.ne_of_lt (blk_lt (g := gb378) (o := .cells #[.int .i64 t372, .int .i64 t373, .int .i64 t374, .int .i64 t375, .int .i64 t376] 32 (0, 0)) (by (with_reducible repeat (first | refine blk_drewN ?_ _ | refine blk_drew ?_ | refine blk_alloc ?_ _)); exact BK378.out)) : gb378 ≠ gb390)); have n11_ := Aside0.mk ((by rw [hg]; exact Nat.ne_of_gt (blk_lt (g := gb378) (o := .cells #[.int .i64 t372, .int .i64 t373, .int .i64 t374, .int .i64 t375, .int .i64 t376] 32 (0, 0)) (by (with_reducible repeat (first | refine blk_drewN ?_ _ | refine blk_drew ?_ | refine blk_alloc ?_ _)); exact BK378.out)) : gb390 ≠ gb378)); have n12_ := Aside0.mk ((by rw [hg]; exact Nat.ne_of_lt (blk_lt (g := gb385) (o := .cells #[.int .i64 t379, .int .i64 t380, .int .i64 t381, .int .i64 t382, .int .i64 t383] 32 (0, 0)) (by (with_reducible repeat (first | refine blk_drewN ?_ _ | refine blk_drew ?_ | refine blk_alloc ?_ _)); exact BK385.out)) : gb385 ≠ gb390)); have n13_ := Aside0.mk ((by rw [hg]; exact Nat.ne_of_gt (blk_lt (g := gb385) (o := .cells #[.int .i64 t379, .int .i64 t380, .int .i64 t381, .int .i64 t382, .int .i64 t383] 32 (0, 0)) (by (with_reducible repeat (first | refine blk_drewN ?_ _ | refine blk_drew ?_ | refine blk_alloc ?_ _)); exact BK385.out)) : gb390 ≠ gb385)); clear HO_20; clear BK371; clear BK378; clear BK385; clear HB; have HO_20 := n0_; have BK371 := n1_; have BK378 := n2_; have BK385 := n3_; have HB := n4_; have BK390 := n5_; have GW390 := n6_; have GE390 := n7_; have NB371_390 := n8_; have NB390_371 := n9_; have NB378_390 := n10_; have NB390_378 := n11_; have NB385_390 := n12_; have NB390_385 := n13_; clear n0_ n1_ n2_ n3_ n4_ n5_ n6_ n7_ n8_ n9_ n10_ n11_ n12_ n13_; clear hb hbox hg))
                    go_loopg [23] kj28 (fun kq v23 w' => ∃ (x23_4 : Int) (x391000_4 : Int) (x391001_4 : Int), v23 = .int .i64 x23_4 ∧ Aside0 (fringelaw20_SearchTurns.l1 kq l0 l1 a2 t355 t386 x23_4 t379 t380 t381 t382 t383 x391000_4 x391001_4 = some r) ∧ Aside0 (kq ≤ kj28) ∧ Aside0 (Kd.R k23 23 w' w.heap.size (fun k_ => k_ ≠ gb390) v388 t386) ∧ Aside0 (w'.heap[gb371]? = some (.cells #[.int .i64 t365, .int .i64 t366, .int .i64 t367, .int .i64 t368, .int .i64 t369] 32 (0, 0))) ∧ Aside0 (w'.heap[gb378]? = some (.cells #[.int .i64 t372, .int .i64 t373, .int .i64 t374, .int .i64 t375, .int .i64 t376] 32 (0, 0))) ∧ Aside0 (w'.heap[gb385]? = some (.cells #[.int .i64 t379, .int .i64 t380, .int .i64 t381, .int .i64 t382, .int .i64 t383] 32 (0, 0))) ∧ Aside0 (w'.heap[gb390]? = some (.cells #[.int .i64 x391000_4, .int .i64 x391001_4] 23 (0, 0))) ∧ Aside0 (Below w.heap.size w w'))
                    case atStart => exact ⟨(0), (0), (0), (by first | rfl | (simp; done) | (simp [*]; done)), H', ⟨Nat.le_refl _⟩, ⟨by (with_reducible repeat (first | apply Kd.R_alloc | apply Kd.R_drewN | apply Kd.R_drew)); exact Kd.R_mono HO_20.out (fun _ hk => hk.2)⟩, ⟨by (with_reducible repeat (first | refine blk_drewN ?_ _ | refine blk_drew ?_ | refine blk_alloc ?_ _)); exact BK371.out⟩, ⟨by (with_reducible repeat (first | refine blk_drewN ?_ _ | refine blk_drew ?_ | refine blk_alloc ?_ _)); exact BK378.out⟩, ⟨by (with_reducible repeat (first | refine blk_drewN ?_ _ | refine blk_drew ?_ | refine blk_alloc ?_ _)); exact BK385.out⟩, ⟨by (with_reducible repeat (first | refine blk_drewN ?_ _ | refine blk_drew ?_ | refine blk_alloc ?_ _)); exact BK390.out⟩, ⟨by repeat (first | (with_reducible first | exact HB.out | apply below_alloc | apply pw_below_drewN | apply below_drew1 | refine below_set ?_ GE371.out | refine below_set ?_ GE378.out | refine below_set ?_ GE385.out | refine below_set ?_ GE390.out) | exact HB.out)⟩⟩
                    case round =>
                      clear H'
                      try clear c1
                      try clear c2
                      try clear p2
                      try clear c3
                      try clear p3
                      try clear q3
                      try clear hx3
                      try clear c4
                      try clear c5
                      try clear c6
                      try clear p6
                      try clear c7
                      try clear c10
                      try clear c11
                      try clear c11b0
                      try clear c12
                      try clear c12b0
                      try clear c13
                      try clear c13b0
                      try clear c14
                      try clear c14b0
                      try clear c15
                      try clear c16
                      try clear c16b0
                      try clear c17
                      try clear c17b0
                      try clear c17b1
                      try clear c18
                      try clear c18b0
                      try clear c18b1
                      try clear c19
                      try clear c19b0
                      try clear c20
                      try clear c22
                      try clear c22b0
                      try clear c23
                      try clear c24
                      try clear c25
                      try clear p35
                      try clear q35
                      try clear hx35
                      try clear c36
                      try clear p36
                      try clear q36
                      try clear hx36
                      try clear c40
                      try clear c41
                      try clear c44
                      try clear c44b0
                      try clear c44b1
                      try clear c45
                      try clear c45b0
                      try clear c45b1
                      try clear c46
                      try clear c46b0
                      try clear c46b1
                      try clear c47
                      try clear c47b0
                      try clear c47b1
                      try clear c48
                      try clear c48b0
                      try clear c49
                      try clear c50
                      try clear c52
                      try clear c54
                      try clear c54b0
                      try clear c54b1
                      try clear c55
                      try clear c56
                      try clear c58
                      try clear c61
                      try clear c62
                      try clear c64
                      try clear p64
                      try clear c66
                      try clear hcz32_0
                      try clear hcz32_1
                      try clear hcz32_2
                      try clear hcz32_3
                      try clear hcz32_4
                      try clear hcz37_0
                      try clear hcz37_1
                      try clear hcz37_2
                      try clear hcz37_3
                      try clear hcz37_4
                      try clear hcz42_0
                      try clear hcz42_1
                      try clear hcz42_2
                      try clear hcz42_3
                      try clear hcz42_4
                      try clear hcz51_0
                      try clear hcz51_1
                      try clear hcz51_2
                      try clear hcz51_3
                      try clear hcz51_4
                      try clear hcz53_0
                      try clear hcz53_1
                      try clear hcz53_2
                      try clear hcz53_3
                      try clear hcz53_4
                      try clear hcz57_0
                      try clear hcz57_1
                      try clear hcz57_2
                      try clear hcz57_3
                      try clear hcz57_4
                      try clear hcz59_0
                      try clear hcz59_1
                      try clear hcz59_2
                      try clear hcz59_3
                      try clear hcz59_4
                      try clear hcz63_0
                      try clear hcz63_1
                      try clear hcz63_2
                      try clear hcz63_3
                      try clear hcz63_4
                      try clear hcz65_0
                      try clear hcz65_1
                      try clear hcz65_2
                      try clear hcz65_3
                      try clear hcz65_4
                      try clear hfz32_0
                      try clear hfz32_1
                      try clear hfz32_2
                      try clear hfz32_3
                      try clear hfz32_4
                      try clear hfz37_0
                      try clear hfz37_1
                      try clear hfz37_2
                      try clear hfz37_3
                      try clear hfz37_4
                      try clear hfz42_0
                      try clear hfz42_1
                      try clear hfz42_2
                      try clear hfz42_3
                      try clear hfz42_4
                      try clear hfz51_0
                      try clear hfz51_1
                      try clear hfz51_2
                      try clear hfz51_3
                      try clear hfz51_4
                      try clear hfz53_0
                      try clear hfz53_1
                      try clear hfz53_2
                      try clear hfz53_3
                      try clear hfz53_4
                      try clear hfz57_0
                      try clear hfz57_1
                      try clear hfz57_2
                      try clear hfz57_3
                      try clear hfz57_4
                      try clear hfz59_0
                      try clear hfz59_1
                      try clear hfz59_2
                      try clear hfz59_3
                      try clear hfz59_4
                      try clear hfz63_0
                      try clear hfz63_1
                      try clear hfz63_2
                      try clear hfz63_3
                      try clear hfz63_4
                      try clear hfz65_0
                      try clear hfz65_1
                      try clear hfz65_2
                      try clear hfz65_3
                      try clear hfz65_4
                      try clear hx357_0
                      try clear hx361_0
                      try clear p2
                      try clear p3
                      try clear p35
                      try clear p357
                      try clear p36
                      try clear p361
                      try clear p6
                      try clear p64
                      try clear q3
                      try clear q35
                      try clear q357
                      try clear q36
                      try clear q361
                      obtain ⟨x23_4, x391000_4, x391001_4, rfl, HA, HK4, HO_20, BK371, BK378, BK385, BK390, HB⟩ := hrel
                      cases gk with
                      | zero => exact absurd HA.out (by simp [fringelaw20_SearchTurns.l1])
                      | succ k4 =>
                        have H := HA.out
                        clear HA
                        simp only [fringelaw20_SearchTurns.l1] at H
                        by_cases c68 : x23_4 < (l0.length : Int)
                        · rw [if_pos c68] at H
                          have c68b0 : decide (x23_4 < (l0.length : Int)) = true := decide_eq_true c68
                          clear c68
                          by_cases c69 : (wrap64 (x23_4 + a2)) ≥ 0
                          · rw [if_pos c69] at H
                            have c69b0 : decide (0 ≤ (wrap64 (x23_4 + a2))) = true := decide_eq_true c69
                            clear c69
                            by_cases c70 : (wrap64 (x23_4 + a2)) < (l1.length : Int)
                            · rw [if_pos c70] at H
                              have c70b0 : decide ((wrap64 (x23_4 + a2)) < (l1.length : Int)) = true := decide_eq_true c70
                              clear c70
                              by_cases c71 : 0 ≤ x23_4
                              · rw [if_pos c71] at H
                                have c71b0 : decide (0 ≤ x23_4) = true := decide_eq_true c71
                                clear c71
                                by_cases c72 : x23_4 < (t386.length : Int)
                                · rw [if_pos c72] at H
                                  have c72b0 : decide (x23_4 < (t386.length : Int)) = true := decide_eq_true c72
                                  clear c72
                                  obtain ⟨ji73, hji73⟩ : ∃ j_ : Int, (wrap64 (x23_4 + a2)) = j_ := ⟨_, rfl⟩
                                  replace H : (if 0 ≤ (ji73) then (fringelaw20_SearchTurns.l1 k4 l0 l1 a2 t355 t386 (wrap64 (x23_4 + 1)) t379 t380 t381 t382 t383 (wrap64 (x391000_4 + (wrap64 (((rd_T23 t386 x23_4).f0) * (rd l1 (ji73)))))) (wrap64 (x391001_4 + (wrap64 (((rd_T23 t386 x23_4).f1) * (rd l1 (ji73))))))) else (none)) = some r := by first | (rw [hji73] at H; exact H) | (simp only [hji73] at H ⊢; exact H)
                                  (try rw [hji73] at c69b0)
                                  (try rw [hji73] at c70b0)
                                  have hji73w : (IntKind.i64.wrap (x23_4 + a2)) = ji73 := (i64_w _).trans hji73
                                  by_cases c74 : 0 ≤ (ji73)
                                  · rw [if_pos c74] at H
                                    have c74b0 : decide (0 ≤ (ji73)) = true := decide_eq_true c74
                                    clear c74
                                    have H' := Aside0.mk H
                                    clear H
                                    try go_wp2
                                    have n0_ := Aside0.mk (Kd.R_drew HO_20.out)
                                    have n1_ := Aside0.mk (blk_drew BK371.out)
                                    have n2_ := Aside0.mk (blk_drew BK378.out)
                                    have n3_ := Aside0.mk (blk_drew BK385.out)
                                    have n4_ := Aside0.mk (blk_drew BK390.out)
                                    have n5_ := Aside0.mk (below_drew1 HB.out)
                                    clear HO_20
                                    clear BK371
                                    clear BK378
                                    clear BK385
                                    clear BK390
                                    clear HB
                                    have HO_20 := n0_
                                    have BK371 := n1_
                                    have BK378 := n2_
                                    have BK385 := n3_
                                    have BK390 := n4_
                                    have HB := n5_
                                    clear n0_ n1_ n2_ n3_ n4_ n5_
                                    obtain ⟨Ao76, co76, eo76⟩ := Kd.R_slice HO_20.out
                                    (first | subst eo76 | (injection eo76 with f1_ f2_ f3_; have f4_ := f1_.symm; have f5_ := f3_.symm; clear f1_ f2_ f3_; subst f4_; subst f5_))
                                    have p391 : 0 ≤ (x23_4 : Int) := of_decide_eq_true (by first | (with_reducible assumption) | assumption)
                                    have q391 : x23_4 < (t386.length : Int) := of_decide_eq_true (by first | (with_reducible assumption) | assumption)
                                    obtain ⟨ad391, e391, hx391_0, hx391_1⟩ := at_T23 (Kd.R_reads' HO_20.out).2.2 x23_4 p391 q391
                                    cases e391
                                    replace p391 := eq_true p391
                                    replace q391 := eq_true q391
                                    have p392 : 0 ≤ ((ji73) : Int) := of_decide_eq_true (by first | (with_reducible assumption) | assumption)
                                    have q392 : (ji73) < (l1.length : Int) := of_decide_eq_true (by first | (with_reducible assumption) | assumption)
                                    obtain ⟨ad392, e392, hx392_0⟩ := Kd.at_int HR1.out (ji73) p392 q392
                                    have hw392_0 := hx392_0
                                    cases e392
                                    replace hx392_0 := (HB.out.cell (World.block_lt_of_cell? w _ hx392_0)).trans hx392_0
                                    replace p392 := eq_true p392
                                    replace q392 := eq_true q392
                                    refine start_ (n := 15) (S := fun w' => w'.cell? ⟨gb390, 0, none⟩ = some (.int .i64 x391000_4) ∧ w'.cell? ⟨gb390, 1, none⟩ = some (.int .i64 x391001_4) ∧ w'.cell? (ad391.add ((x23_4).toNat * 2)) = some (.int .i64 ((rd_T23 t386 x23_4).f0)) ∧ w'.cell? ⟨(ad391.add ((x23_4).toNat * 2)).block, (ad391.add ((x23_4).toNat * 2)).off + 1, none⟩ = some (.int .i64 ((rd_T23 t386 x23_4).f1)) ∧ w'.cell? (ad392.add ((ji73)).toNat) = some (.int .i64 (rd l1 (ji73)))) (ds := [14]) #[false, false, false, false, false, false, false, false, false, false, false, false, false, false, false] (by kernel_rfl) rfl rfl ⟨(blk_cell BK390.out 0).trans rfl, (blk_cell BK390.out 1).trans rfl, hx391_0, hx391_1, ((HB.out.cell (World.block_lt_of_cell? w _ hw392_0)).trans hw392_0)⟩ (fun hHeld => ?_); refine with_tabW fringelaw20_SearchTurns.tab23 fringelaw20_SearchTurns.bits23 (fun HT_ HW_ => ?_)
                                    generalize wr.drew = w75 at HO_20 BK371 BK378 BK385 BK390 HB hx391_0 hx391_1 hx392_0 hHeld ⊢
                                    refine pure_ (i := 0) (N := some 166) (v := ?_) (a' := ?_) #[true, false, false, false, false, false, false, false, false, false, false, false, false, false, false] rfl rfl (any_of HT_.out (by kernel_rfl)) (fun _ _ _ h => h) (Or.inl ⟨by rfl, ?_⟩) ?_ ?_
                                    rotate_left
                                    · intro w'
                                      go_simp
                                      with_reducible rfl
                                    rotate_left
                                    · simp only [Act.put, List.setIfInBounds_toArray, List.set_cons_zero, List.set_cons_succ, i64_w, i32_w]
                                      rfl
                                    refine pure_ (i := 2) (N := some 168) (v := ?_) (a' := ?_) #[true, false, true, false, false, false, false, false, false, false, false, false, false, false, false] rfl rfl (any_of HT_.out (by kernel_rfl)) (fun _ _ _ h => h) (Or.inl ⟨by rfl, ?_⟩) ?_ ?_
                                    rotate_left
                                    · intro w'
                                      go_simp
                                      with_reducible rfl
                                    rotate_left
                                    · simp only [Act.put, List.setIfInBounds_toArray, List.set_cons_zero, List.set_cons_succ, i64_w, i32_w]
                                      rfl
                                    refine pure_ (i := 3) (N := some 169) (v := ?_) (a' := ?_) #[true, false, true, true, false, false, false, false, false, false, false, false, false, false, false] rfl rfl (any_of HT_.out (by kernel_rfl)) (fun _ _ _ h => h) (Or.inl ⟨by rfl, ?_⟩) ?_ ?_
                                    rotate_left
                                    · intro w'
                                      go_simp
                                      with_reducible rfl
                                    rotate_left
                                    · simp only [Act.put, List.setIfInBounds_toArray, List.set_cons_zero, List.set_cons_succ, i64_w, i32_w]
                                      rfl
                                    refine pure_ (i := 4) (N := some 170) (v := ?_) (a' := ?_) #[true, false, true, true, true, false, false, false, false, false, false, false, false, false, false] rfl rfl (any_of HT_.out (by kernel_rfl)) (fun _ _ _ h => h) (Or.inl ⟨by rfl, ?_⟩) ?_ ?_
                                    rotate_left
                                    · intro w'
                                      go_simp
                                      with_reducible rfl
                                    rotate_left
                                    · simp only [Act.put, List.setIfInBounds_toArray, List.set_cons_zero, List.set_cons_succ, i64_w, i32_w]
                                      rfl
                                    refine pure_ (i := 5) (N := some 171) (v := ?_) (a' := ?_) #[true, false, true, true, true, true, false, false, false, false, false, false, false, false, false] rfl rfl (any_of HT_.out (by kernel_rfl)) (fun _ _ _ h => h) (Or.inl ⟨by rfl, ?_⟩) ?_ ?_
                                    rotate_left
                                    · intro w'
                                      go_simp
                                      with_reducible rfl
                                    rotate_left
                                    · simp only [Act.put, List.setIfInBounds_toArray, List.set_cons_zero, List.set_cons_succ, i64_w, i32_w]
                                      rfl
                                    refine pure_ (i := 7) (N := some 173) (v := ?_) (a' := ?_) #[true, false, true, true, true, true, false, true, false, false, false, false, false, false, false] rfl rfl (any_of HT_.out (by kernel_rfl)) (fun _ _ _ h => h) (Or.inl ⟨by rfl, ?_⟩) ?_ ?_
                                    rotate_left
                                    · intro w'
                                      go_simp
                                      with_reducible rfl
                                    rotate_left
                                    · simp only [Act.put, List.setIfInBounds_toArray, List.set_cons_zero, List.set_cons_succ, i64_w, i32_w]
                                      rfl
                                    refine pure_ (i := 8) (N := some 174) (v := ?_) (a' := ?_) #[true, false, true, true, true, true, false, true, true, false, false, false, false, false, false] rfl rfl (any_of HT_.out (by kernel_rfl)) (fun _ _ _ h => h) (Or.inl ⟨by rfl, ?_⟩) ?_ ?_
                                    rotate_left
                                    · intro w'
                                      go_simp
                                      with_reducible rfl
                                    rotate_left
                                    · simp only [Act.put, List.setIfInBounds_toArray, List.set_cons_zero, List.set_cons_succ, i64_w, i32_w]
                                      rfl
                                    refine pure_ (i := 9) (N := some 175) (v := ?_) (a' := ?_) #[true, false, true, true, true, true, false, true, true, true, false, false, false, false, false] rfl rfl (any_of HT_.out (by kernel_rfl)) (fun _ _ _ h => h) (Or.inl ⟨by rfl, ?_⟩) ?_ ?_
                                    rotate_left
                                    · intro w'
                                      go_simp
                                      with_reducible rfl
                                    rotate_left
                                    · simp only [Act.put, List.setIfInBounds_toArray, List.set_cons_zero, List.set_cons_succ, i64_w, i32_w]
                                      rfl
                                    refine take_ (i := 1) (N := some 167) (v := ?_) (a' := ?_) #[true, true, true, true, true, true, false, true, true, true, false, false, false, false, false] rfl rfl (take_ofW HT_.out HW_.out (by kernel_rfl)) (fun _ _ _ h => h) (Or.inl ⟨by rfl, ?_⟩) hHeld ?_ ?_
                                    rotate_left
                                    · rintro w' ⟨s0, s1, s2, s3, s4⟩
                                      go_simp
                                      with_reducible rfl
                                    rotate_left
                                    · simp only [Act.put, List.setIfInBounds_toArray, List.set_cons_zero, List.set_cons_succ, i64_w, i32_w]
                                      rfl
                                    refine take_ (i := 6) (N := some 172) (v := ?_) (a' := ?_) #[true, true, true, true, true, true, true, true, true, true, false, false, false, false, false] rfl rfl (take_ofW HT_.out HW_.out (by kernel_rfl)) (fun _ _ _ h => h) (Or.inl ⟨by rfl, ?_⟩) hHeld ?_ ?_
                                    rotate_left
                                    · rintro w' ⟨s0, s1, s2, s3, s4⟩
                                      go_simp
                                      with_reducible rfl
                                    rotate_left
                                    · simp only [Act.put, List.setIfInBounds_toArray, List.set_cons_zero, List.set_cons_succ, i64_w, i32_w]
                                      rfl
                                    refine take_ (i := 10) (N := some 176) (v := ?_) (a' := ?_) #[true, true, true, true, true, true, true, true, true, true, true, false, false, false, false] rfl rfl (take_ofW HT_.out HW_.out (by kernel_rfl)) (fun _ _ _ h => h) (Or.inl ⟨by rfl, ?_⟩) hHeld ?_ ?_
                                    rotate_left
                                    · rintro w' ⟨s0, s1, s2, s3, s4⟩
                                      go_simp
                                      with_reducible rfl
                                    rotate_left
                                    · simp only [Act.put, List.setIfInBounds_toArray, List.set_cons_zero, List.set_cons_succ, i64_w, i32_w]
                                      rfl
                                    refine pure_ (i := 11) (N := some 177) (v := ?_) (a' := ?_) #[true, true, true, true, true, true, true, true, true, true, true, true, false, false, false] rfl rfl (any_of HT_.out (by kernel_rfl)) (fun _ _ _ h => h) (Or.inl ⟨by rfl, ?_⟩) ?_ ?_
                                    rotate_left
                                    · intro w'
                                      go_simp
                                      with_reducible rfl
                                    rotate_left
                                    · simp only [Act.put, List.setIfInBounds_toArray, List.set_cons_zero, List.set_cons_succ, i64_w, i32_w]
                                      rfl
                                    refine pure_ (i := 12) (N := some 178) (v := ?_) (a' := ?_) #[true, true, true, true, true, true, true, true, true, true, true, true, true, false, false] rfl rfl (any_of HT_.out (by kernel_rfl)) (fun _ _ _ h => h) (Or.inl ⟨by rfl, ?_⟩) ?_ ?_
                                    rotate_left
                                    · intro w'
                                      go_simp
                                      with_reducible rfl
                                    rotate_left
                                    · simp only [Act.put, List.setIfInBounds_toArray, List.set_cons_zero, List.set_cons_succ, i64_w, i32_w]
                                      rfl
                                    refine pure_ (i := 13) (N := some 179) (v := ?_) (a' := ?_) #[true, true, true, true, true, true, true, true, true, true, true, true, true, true, false] rfl rfl (any_of HT_.out (by kernel_rfl)) (fun _ _ _ h => h) (Or.inl ⟨by rfl, ?_⟩) ?_ ?_
                                    rotate_left
                                    · intro w'
                                      go_simp
                                      with_reducible rfl
                                    rotate_left
                                    · simp only [Act.put, List.setIfInBounds_toArray, List.set_cons_zero, List.set_cons_succ, i64_w, i32_w]
                                      rfl
                                    refine last_ (i := 14) (N := none) #[true, true, true, true, true, true, true, true, true, true, true, true, true, true, true] rfl rfl (one_of HT_.out (by kernel_rfl)) (by decide) (fun K hK => ?_)
                                    have hs77 : w75.cell? ⟨gb390, 0, none⟩ = some (.int .i64 x391000_4) := (blk_cell BK390.out 0).trans rfl
                                    have hfs77 := blk_frozen BK390.out 0
                                    have hns77_0 := NB371_390.out
                                    have hns77_1 := NB378_390.out
                                    have hns77_2 := NB385_390.out
                                    have hms77_0 := NB390_371.out
                                    have hms77_1 := NB390_378.out
                                    have hms77_2 := NB390_385.out
                                    refine skip_ (w1 := ?_) (by rfl) rfl ?_ ?_
                                    rotate_left
                                    · go_simp
                                      rfl
                                    refine hK.out _ _ ?_
                                    clear hK K
                                    refine done_ (done_of HT_.out (by kernel_rfl)) ?_
                                    try go_wp2
                                    have n0_ : Aside0 (Kd.R k23 23 (w75.setCell ⟨gb390, 0, none⟩ (.int .i64 (wrap64 (x391000_4 + (wrap64 (((rd_T23 t386 x23_4).f0) * (rd l1 (ji73)))))))) w.heap.size (fun k_ => k_ ≠ gb390) (.slice (some ad391) t386.length co76) t386) := ⟨by (with_reducible repeat (first | apply Kd.R_alloc | apply Kd.R_drewN | apply Kd.R_drew)); exact Kd.R_mono (Kd.R_far (p := ⟨gb390, 0, none⟩) (Kd.R_mono HO_20.out (fun k_ hk => (⟨hk, hk⟩ : _ ∧ k_ ≠ gb390))) (fun _ hk => hk.2) (.int .i64 (wrap64 (x391000_4 + (wrap64 (((rd_T23 t386 x23_4).f0) * (rd l1 (ji73)))))))) (fun _ hk => hk.1)⟩
                                    have n1_ : Aside0 ((w75.setCell ⟨gb390, 0, none⟩ (.int .i64 (wrap64 (x391000_4 + (wrap64 (((rd_T23 t386 x23_4).f0) * (rd l1 (ji73)))))))).heap[gb371]? = some (.cells #[.int .i64 t365, .int .i64 t366, .int .i64 t367, .int .i64 t368, .int .i64 t369] 32 (0, 0))) := ⟨by (with_reducible repeat (first | refine blk_drewN ?_ _ | refine blk_drew ?_ | refine blk_alloc ?_ _)); refine blk_far ?_ NB371_390.out _; (with_reducible repeat (first | refine blk_drewN ?_ _ | refine blk_drew ?_ | refine blk_alloc ?_ _)); exact BK371.out⟩
                                    have n2_ : Aside0 ((w75.setCell ⟨gb390, 0, none⟩ (.int .i64 (wrap64 (x391000_4 + (wrap64 (((rd_T23 t386 x23_4).f0) * (rd l1 (ji73)))))))).heap[gb378]? = some (.cells #[.int .i64 t372, .int .i64 t373, .int .i64 t374, .int .i64 t375, .int .i64 t376] 32 (0, 0))) := ⟨by (with_reducible repeat (first | refine blk_drewN ?_ _ | refine blk_drew ?_ | refine blk_alloc ?_ _)); refine blk_far ?_ NB378_390.out _; (with_reducible repeat (first | refine blk_drewN ?_ _ | refine blk_drew ?_ | refine blk_alloc ?_ _)); exact BK378.out⟩
                                    have n3_ : Aside0 ((w75.setCell ⟨gb390, 0, none⟩ (.int .i64 (wrap64 (x391000_4 + (wrap64 (((rd_T23 t386 x23_4).f0) * (rd l1 (ji73)))))))).heap[gb385]? = some (.cells #[.int .i64 t379, .int .i64 t380, .int .i64 t381, .int .i64 t382, .int .i64 t383] 32 (0, 0))) := ⟨by (with_reducible repeat (first | refine blk_drewN ?_ _ | refine blk_drew ?_ | refine blk_alloc ?_ _)); refine blk_far ?_ NB385_390.out _; (with_reducible repeat (first | refine blk_drewN ?_ _ | refine blk_drew ?_ | refine blk_alloc ?_ _)); exact BK385.out⟩
                                    have n4_ : Aside0 ((w75.setCell ⟨gb390, 0, none⟩ (.int .i64 (wrap64 (x391000_4 + (wrap64 (((rd_T23 t386 x23_4).f0) * (rd l1 (ji73)))))))).heap[gb390]? = some (.cells #[.int .i64 (wrap64 (x391000_4 + (wrap64 (((rd_T23 t386 x23_4).f0) * (rd l1 (ji73)))))), .int .i64 x391001_4] 23 (0, 0))) := ⟨by (with_reducible repeat (first | refine blk_drewN ?_ _ | refine blk_drew ?_ | refine blk_alloc ?_ _)); refine blk_put (cs := #[.int .i64 x391000_4, .int .i64 x391001_4]) ?_ 0 _ rfl; (with_reducible repeat (first | refine blk_drewN ?_ _ | refine blk_drew ?_ | refine blk_alloc ?_ _)); exact BK390.out⟩
                                    have n5_ : Aside0 (Below w.heap.size w (w75.setCell ⟨gb390, 0, none⟩ (.int .i64 (wrap64 (x391000_4 + (wrap64 (((rd_T23 t386 x23_4).f0) * (rd l1 (ji73))))))))) := ⟨by repeat (first | (with_reducible first | exact HB.out | apply below_alloc | apply pw_below_drewN | apply below_drew1 | refine below_set ?_ GE371.out | refine below_set ?_ GE378.out | refine below_set ?_ GE385.out | refine below_set ?_ GE390.out) | exact HB.out)⟩
                                    (try clear HO_20)
                                    (try clear BK371)
                                    (try clear BK378)
                                    (try clear BK385)
                                    (try clear BK390)
                                    (try clear HB)
                                    generalize (w75.setCell ⟨gb390, 0, none⟩ (.int .i64 (wrap64 (x391000_4 + (wrap64 (((rd_T23 t386 x23_4).f0) * (rd l1 (ji73)))))))) = w78 at n0_ n1_ n2_ n3_ n4_ n5_ ⊢
                                    have HO_20 := n0_
                                    have BK371 := n1_
                                    have BK378 := n2_
                                    have BK385 := n3_
                                    have BK390 := n4_
                                    have HB := n5_
                                    clear n0_ n1_ n2_ n3_ n4_ n5_
                                    have n0_ := Aside0.mk (Kd.R_drew HO_20.out)
                                    have n1_ := Aside0.mk (blk_drew BK371.out)
                                    have n2_ := Aside0.mk (blk_drew BK378.out)
                                    have n3_ := Aside0.mk (blk_drew BK385.out)
                                    have n4_ := Aside0.mk (blk_drew BK390.out)
                                    have n5_ := Aside0.mk (below_drew1 HB.out)
                                    clear HO_20
                                    clear BK371
                                    clear BK378
                                    clear BK385
                                    clear BK390
                                    clear HB
                                    have HO_20 := n0_
                                    have BK371 := n1_
                                    have BK378 := n2_
                                    have BK385 := n3_
                                    have BK390 := n4_
                                    have HB := n5_
                                    clear n0_ n1_ n2_ n3_ n4_ n5_
                                    have p393 : 0 ≤ (x23_4 : Int) := of_decide_eq_true (by first | (with_reducible assumption) | assumption)
                                    have q393 : x23_4 < (t386.length : Int) := of_decide_eq_true (by first | (with_reducible assumption) | assumption)
                                    obtain ⟨ad393, e393, hx393_0, hx393_1⟩ := at_T23 (Kd.R_reads' HO_20.out).2.2 x23_4 p393 q393
                                    obtain rfl : ad391 = ad393 := (by injection e393)
                                    replace p393 := eq_true p393
                                    replace q393 := eq_true q393
                                    have p394 : 0 ≤ ((ji73) : Int) := of_decide_eq_true (by first | (with_reducible assumption) | assumption)
                                    have q394 : (ji73) < (l1.length : Int) := of_decide_eq_true (by first | (with_reducible assumption) | assumption)
                                    obtain ⟨ad394, e394, hx394_0⟩ := Kd.at_int HR1.out (ji73) p394 q394
                                    have hw394_0 := hx394_0
                                    obtain rfl : ad392 = ad394 := (by injection e394)
                                    replace hx394_0 := (HB.out.cell (World.block_lt_of_cell? w _ hx394_0)).trans hx394_0
                                    replace p394 := eq_true p394
                                    replace q394 := eq_true q394
                                    refine start_ (n := 15) (S := fun w' => w'.cell? ⟨gb390, 0, none⟩ = some (.int .i64 (wrap64 (x391000_4 + (wrap64 (((rd_T23 t386 x23_4).f0) * (rd l1 (ji73))))))) ∧ w'.cell? ⟨gb390, 1, none⟩ = some (.int .i64 x391001_4) ∧ w'.cell? (ad391.add ((x23_4).toNat * 2)) = some (.int .i64 ((rd_T23 t386 x23_4).f0)) ∧ w'.cell? ⟨(ad391.add ((x23_4).toNat * 2)).block, (ad391.add ((x23_4).toNat * 2)).off + 1, none⟩ = some (.int .i64 ((rd_T23 t386 x23_4).f1)) ∧ w'.cell? (ad392.add ((ji73)).toNat) = some (.int .i64 (rd l1 (ji73)))) (ds := [14]) #[false, false, false, false, false, false, false, false, false, false, false, false, false, false, false] (by kernel_rfl) rfl rfl ⟨(blk_cell BK390.out 0).trans rfl, (blk_cell BK390.out 1).trans rfl, hx393_0, hx393_1, ((HB.out.cell (World.block_lt_of_cell? w _ hw394_0)).trans hw394_0)⟩ (fun hHeld => ?_); refine with_tabW fringelaw20_SearchTurns.tab24 fringelaw20_SearchTurns.bits24 (fun HT_ HW_ => ?_)
                                    generalize w78.drew = w79 at HO_20 BK371 BK378 BK385 BK390 HB hx393_0 hx393_1 hx394_0 hHeld ⊢
                                    refine pure_ (i := 0) (N := some 180) (v := ?_) (a' := ?_) #[true, false, false, false, false, false, false, false, false, false, false, false, false, false, false] rfl rfl (any_of HT_.out (by kernel_rfl)) (fun _ _ _ h => h) (Or.inl ⟨by rfl, ?_⟩) ?_ ?_
                                    rotate_left
                                    · intro w'
                                      go_simp
                                      with_reducible rfl
                                    rotate_left
                                    · simp only [Act.put, List.setIfInBounds_toArray, List.set_cons_zero, List.set_cons_succ, i64_w, i32_w]
                                      rfl
                                    refine pure_ (i := 2) (N := some 182) (v := ?_) (a' := ?_) #[true, false, true, false, false, false, false, false, false, false, false, false, false, false, false] rfl rfl (any_of HT_.out (by kernel_rfl)) (fun _ _ _ h => h) (Or.inl ⟨by rfl, ?_⟩) ?_ ?_
                                    rotate_left
                                    · intro w'
                                      go_simp
                                      with_reducible rfl
                                    rotate_left
                                    · simp only [Act.put, List.setIfInBounds_toArray, List.set_cons_zero, List.set_cons_succ, i64_w, i32_w]
                                      rfl
                                    refine pure_ (i := 3) (N := some 183) (v := ?_) (a' := ?_) #[true, false, true, true, false, false, false, false, false, false, false, false, false, false, false] rfl rfl (any_of HT_.out (by kernel_rfl)) (fun _ _ _ h => h) (Or.inl ⟨by rfl, ?_⟩) ?_ ?_
                                    rotate_left
                                    · intro w'
                                      go_simp
                                      with_reducible rfl
                                    rotate_left
                                    · simp only [Act.put, List.setIfInBounds_toArray, List.set_cons_zero, List.set_cons_succ, i64_w, i32_w]
                                      rfl
                                    refine pure_ (i := 4) (N := some 184) (v := ?_) (a' := ?_) #[true, false, true, true, true, false, false, false, false, false, false, false, false, false, false] rfl rfl (any_of HT_.out (by kernel_rfl)) (fun _ _ _ h => h) (Or.inl ⟨by rfl, ?_⟩) ?_ ?_
                                    rotate_left
                                    · intro w'
                                      go_simp
                                      with_reducible rfl
                                    rotate_left
                                    · simp only [Act.put, List.setIfInBounds_toArray, List.set_cons_zero, List.set_cons_succ, i64_w, i32_w]
                                      rfl
                                    refine pure_ (i := 5) (N := some 185) (v := ?_) (a' := ?_) #[true, false, true, true, true, true, false, false, false, false, false, false, false, false, false] rfl rfl (any_of HT_.out (by kernel_rfl)) (fun _ _ _ h => h) (Or.inl ⟨by rfl, ?_⟩) ?_ ?_
                                    rotate_left
                                    · intro w'
                                      go_simp
                                      with_reducible rfl
                                    rotate_left
                                    · simp only [Act.put, List.setIfInBounds_toArray, List.set_cons_zero, List.set_cons_succ, i64_w, i32_w]
                                      rfl
                                    refine pure_ (i := 7) (N := some 187) (v := ?_) (a' := ?_) #[true, false, true, true, true, true, false, true, false, false, false, false, false, false, false] rfl rfl (any_of HT_.out (by kernel_rfl)) (fun _ _ _ h => h) (Or.inl ⟨by rfl, ?_⟩) ?_ ?_
                                    rotate_left
                                    · intro w'
                                      go_simp
                                      with_reducible rfl
                                    rotate_left
                                    · simp only [Act.put, List.setIfInBounds_toArray, List.set_cons_zero, List.set_cons_succ, i64_w, i32_w]
                                      rfl
                                    refine pure_ (i := 8) (N := some 188) (v := ?_) (a' := ?_) #[true, false, true, true, true, true, false, true, true, false, false, false, false, false, false] rfl rfl (any_of HT_.out (by kernel_rfl)) (fun _ _ _ h => h) (Or.inl ⟨by rfl, ?_⟩) ?_ ?_
                                    rotate_left
                                    · intro w'
                                      go_simp
                                      with_reducible rfl
                                    rotate_left
                                    · simp only [Act.put, List.setIfInBounds_toArray, List.set_cons_zero, List.set_cons_succ, i64_w, i32_w]
                                      rfl
                                    refine pure_ (i := 9) (N := some 189) (v := ?_) (a' := ?_) #[true, false, true, true, true, true, false, true, true, true, false, false, false, false, false] rfl rfl (any_of HT_.out (by kernel_rfl)) (fun _ _ _ h => h) (Or.inl ⟨by rfl, ?_⟩) ?_ ?_
                                    rotate_left
                                    · intro w'
                                      go_simp
                                      with_reducible rfl
                                    rotate_left
                                    · simp only [Act.put, List.setIfInBounds_toArray, List.set_cons_zero, List.set_cons_succ, i64_w, i32_w]
                                      rfl
                                    refine take_ (i := 1) (N := some 181) (v := ?_) (a' := ?_) #[true, true, true, true, true, true, false, true, true, true, false, false, false, false, false] rfl rfl (take_ofW HT_.out HW_.out (by kernel_rfl)) (fun _ _ _ h => h) (Or.inl ⟨by rfl, ?_⟩) hHeld ?_ ?_
                                    rotate_left
                                    · rintro w' ⟨s0, s1, s2, s3, s4⟩
                                      go_simp
                                      with_reducible rfl
                                    rotate_left
                                    · simp only [Act.put, List.setIfInBounds_toArray, List.set_cons_zero, List.set_cons_succ, i64_w, i32_w]
                                      rfl
                                    refine take_ (i := 6) (N := some 186) (v := ?_) (a' := ?_) #[true, true, true, true, true, true, true, true, true, true, false, false, false, false, false] rfl rfl (take_ofW HT_.out HW_.out (by kernel_rfl)) (fun _ _ _ h => h) (Or.inl ⟨by rfl, ?_⟩) hHeld ?_ ?_
                                    rotate_left
                                    · rintro w' ⟨s0, s1, s2, s3, s4⟩
                                      go_simp
                                      with_reducible rfl
                                    rotate_left
                                    · simp only [Act.put, List.setIfInBounds_toArray, List.set_cons_zero, List.set_cons_succ, i64_w, i32_w]
                                      rfl
                                    refine take_ (i := 10) (N := some 190) (v := ?_) (a' := ?_) #[true, true, true, true, true, true, true, true, true, true, true, false, false, false, false] rfl rfl (take_ofW HT_.out HW_.out (by kernel_rfl)) (fun _ _ _ h => h) (Or.inl ⟨by rfl, ?_⟩) hHeld ?_ ?_
                                    rotate_left
                                    · rintro w' ⟨s0, s1, s2, s3, s4⟩
                                      go_simp
                                      with_reducible rfl
                                    rotate_left
                                    · simp only [Act.put, List.setIfInBounds_toArray, List.set_cons_zero, List.set_cons_succ, i64_w, i32_w]
                                      rfl
                                    refine pure_ (i := 11) (N := some 191) (v := ?_) (a' := ?_) #[true, true, true, true, true, true, true, true, true, true, true, true, false, false, false] rfl rfl (any_of HT_.out (by kernel_rfl)) (fun _ _ _ h => h) (Or.inl ⟨by rfl, ?_⟩) ?_ ?_
                                    rotate_left
                                    · intro w'
                                      go_simp
                                      with_reducible rfl
                                    rotate_left
                                    · simp only [Act.put, List.setIfInBounds_toArray, List.set_cons_zero, List.set_cons_succ, i64_w, i32_w]
                                      rfl
                                    refine pure_ (i := 12) (N := some 192) (v := ?_) (a' := ?_) #[true, true, true, true, true, true, true, true, true, true, true, true, true, false, false] rfl rfl (any_of HT_.out (by kernel_rfl)) (fun _ _ _ h => h) (Or.inl ⟨by rfl, ?_⟩) ?_ ?_
                                    rotate_left
                                    · intro w'
                                      go_simp
                                      with_reducible rfl
                                    rotate_left
                                    · simp only [Act.put, List.setIfInBounds_toArray, List.set_cons_zero, List.set_cons_succ, i64_w, i32_w]
                                      rfl
                                    refine pure_ (i := 13) (N := some 193) (v := ?_) (a' := ?_) #[true, true, true, true, true, true, true, true, true, true, true, true, true, true, false] rfl rfl (any_of HT_.out (by kernel_rfl)) (fun _ _ _ h => h) (Or.inl ⟨by rfl, ?_⟩) ?_ ?_
                                    rotate_left
                                    · intro w'
                                      go_simp
                                      with_reducible rfl
                                    rotate_left
                                    · simp only [Act.put, List.setIfInBounds_toArray, List.set_cons_zero, List.set_cons_succ, i64_w, i32_w]
                                      rfl
                                    refine last_ (i := 14) (N := none) #[true, true, true, true, true, true, true, true, true, true, true, true, true, true, true] rfl rfl (one_of HT_.out (by kernel_rfl)) (by decide) (fun K hK => ?_)
                                    have hs80 : w79.cell? ⟨gb390, 1, none⟩ = some (.int .i64 x391001_4) := (blk_cell BK390.out 1).trans rfl
                                    have hfs80 := blk_frozen BK390.out 1
                                    have hns80_0 := NB371_390.out
                                    have hns80_1 := NB378_390.out
                                    have hns80_2 := NB385_390.out
                                    have hms80_0 := NB390_371.out
                                    have hms80_1 := NB390_378.out
                                    have hms80_2 := NB390_385.out
                                    refine skip_ (w1 := ?_) (by rfl) rfl ?_ ?_
                                    rotate_left
                                    · go_simp
                                      rfl
                                    refine hK.out _ _ ?_
                                    clear hK K
                                    refine done_ (done_of HT_.out (by kernel_rfl)) ?_
                                    try go_wp2
                                    go_roundg k4
                                    case measure => have := HJ6.out; have := HK2.out; have := HJ28.out; have := HK4.out; omega
                                    case rel => exact ⟨(wrap64 (x23_4 + 1)), (wrap64 (x391000_4 + (wrap64 (((rd_T23 t386 x23_4).f0) * (rd l1 (ji73)))))), (wrap64 (x391001_4 + (wrap64 (((rd_T23 t386 x23_4).f1) * (rd l1 (ji73)))))), (by first | rfl | (simp; done) | (simp [*]; done)), H', ⟨by have := HJ6.out; have := HK2.out; have := HJ28.out; have := HK4.out; omega⟩, ⟨by (with_reducible repeat (first | apply Kd.R_alloc | apply Kd.R_drewN | apply Kd.R_drew)); exact Kd.R_mono (Kd.R_far (p := ⟨gb390, 1, none⟩) (Kd.R_mono HO_20.out (fun k_ hk => (⟨hk, hk⟩ : _ ∧ k_ ≠ gb390))) (fun _ hk => hk.2) (.int .i64 (wrap64 (x391001_4 + (wrap64 (((rd_T23 t386 x23_4).f1) * (rd l1 (ji73)))))))) (fun _ hk => hk.1)⟩, ⟨by (with_reducible repeat (first | refine blk_drewN ?_ _ | refine blk_drew ?_ | refine blk_alloc ?_ _)); refine blk_far ?_ NB371_390.out _; (with_reducible repeat (first | refine blk_drewN ?_ _ | refine blk_drew ?_ | refine blk_alloc ?_ _)); exact BK371.out⟩, ⟨by (with_reducible repeat (first | refine blk_drewN ?_ _ | refine blk_drew ?_ | refine blk_alloc ?_ _)); refine blk_far ?_ NB378_390.out _; (with_reducible repeat (first | refine blk_drewN ?_ _ | refine blk_drew ?_ | refine blk_alloc ?_ _)); exact BK378.out⟩, ⟨by (with_reducible repeat (first | refine blk_drewN ?_ _ | refine blk_drew ?_ | refine blk_alloc ?_ _)); refine blk_far ?_ NB385_390.out _; (with_reducible repeat (first | refine blk_drewN ?_ _ | refine blk_drew ?_ | refine blk_alloc ?_ _)); exact BK385.out⟩, ⟨by (with_reducible repeat (first | refine blk_drewN ?_ _ | refine blk_drew ?_ | refine blk_alloc ?_ _)); refine blk_put (cs := #[.int .i64 (wrap64 (x391000_4 + (wrap64 (((rd_T23 t386 x23_4).f0) * (rd l1 (ji73)))))), .int .i64 x391001_4]) ?_ 1 _ rfl; (with_reducible repeat (first | refine blk_drewN ?_ _ | refine blk_drew ?_ | refine blk_alloc ?_ _)); exact BK390.out⟩, ⟨by repeat (first | (with_reducible first | exact HB.out | apply below_alloc | apply pw_below_drewN | apply below_drew1 | refine below_set ?_ GE371.out | refine below_set ?_ GE378.out | refine below_set ?_ GE385.out | refine below_set ?_ GE390.out) | exact HB.out)⟩⟩
                                  · rw [if_neg c74] at H
                                    exact absurd H (by simp)
                                · rw [if_neg c72] at H
                                  exact absurd H (by simp)
                              · rw [if_neg c71] at H
                                exact absurd H (by simp)
                            · rw [if_neg c70] at H
                              have c70b0 : decide ((wrap64 (x23_4 + a2)) < (l1.length : Int)) = false := decide_eq_false c70
                              clear c70
                              have H' := Aside0.mk H
                              clear H
                              go_wp2
                              go_roundg k4
                              case measure => have := HJ6.out; have := HK2.out; have := HJ28.out; have := HK4.out; omega
                              case rel => exact ⟨(wrap64 (x23_4 + 1)), (x391000_4), (x391001_4), (by first | rfl | (simp; done) | (simp [*]; done)), H', ⟨by have := HJ6.out; have := HK2.out; have := HJ28.out; have := HK4.out; omega⟩, ⟨by (with_reducible repeat (first | apply Kd.R_alloc | apply Kd.R_drewN | apply Kd.R_drew)); exact HO_20.out⟩, ⟨by (with_reducible repeat (first | refine blk_drewN ?_ _ | refine blk_drew ?_ | refine blk_alloc ?_ _)); exact BK371.out⟩, ⟨by (with_reducible repeat (first | refine blk_drewN ?_ _ | refine blk_drew ?_ | refine blk_alloc ?_ _)); exact BK378.out⟩, ⟨by (with_reducible repeat (first | refine blk_drewN ?_ _ | refine blk_drew ?_ | refine blk_alloc ?_ _)); exact BK385.out⟩, ⟨by (with_reducible repeat (first | refine blk_drewN ?_ _ | refine blk_drew ?_ | refine blk_alloc ?_ _)); exact BK390.out⟩, ⟨by repeat (first | (with_reducible first | exact HB.out | apply below_alloc | apply pw_below_drewN | apply below_drew1 | refine below_set ?_ GE371.out | refine below_set ?_ GE378.out | refine below_set ?_ GE385.out | refine below_set ?_ GE390.out) | exact HB.out)⟩⟩
                          · rw [if_neg c69] at H
                            have c69b0 : decide (0 ≤ (wrap64 (x23_4 + a2))) = false := decide_eq_false c69
                            clear c69
                            have H' := Aside0.mk H
                            clear H
                            go_wp2
                            go_roundg k4
                            case measure => have := HJ6.out; have := HK2.out; have := HJ28.out; have := HK4.out; omega
                            case rel => exact ⟨(wrap64 (x23_4 + 1)), (x391000_4), (x391001_4), (by first | rfl | (simp; done) | (simp [*]; done)), H', ⟨by have := HJ6.out; have := HK2.out; have := HJ28.out; have := HK4.out; omega⟩, ⟨by (with_reducible repeat (first | apply Kd.R_alloc | apply Kd.R_drewN | apply Kd.R_drew)); exact HO_20.out⟩, ⟨by (with_reducible repeat (first | refine blk_drewN ?_ _ | refine blk_drew ?_ | refine blk_alloc ?_ _)); exact BK371.out⟩, ⟨by (with_reducible repeat (first | refine blk_drewN ?_ _ | refine blk_drew ?_ | refine blk_alloc ?_ _)); exact BK378.out⟩, ⟨by (with_reducible repeat (first | refine blk_drewN ?_ _ | refine blk_drew ?_ | refine blk_alloc ?_ _)); exact BK385.out⟩, ⟨by (with_reducible repeat (first | refine blk_drewN ?_ _ | refine blk_drew ?_ | refine blk_alloc ?_ _)); exact BK390.out⟩, ⟨by repeat (first | (with_reducible first | exact HB.out | apply below_alloc | apply pw_below_drewN | apply below_drew1 | refine below_set ?_ GE371.out | refine below_set ?_ GE378.out | refine below_set ?_ GE385.out | refine below_set ?_ GE390.out) | exact HB.out)⟩⟩
                        · rw [if_neg c68] at H
                          have c68b0 : decide (x23_4 < (l0.length : Int)) = false := decide_eq_false c68
                          clear c68
                          by_cases c81 : t355 = true
                          · subst c81
                            have H1 : (some (x391000_4 == t381 && (x391001_4 == t382))) = some r := by rw [if_pos rfl] at H; exact H
                            clear H
                            have H := H1
                            clear H1
                            obtain rfl := Option.some.inj H
                            have hnb82 := NB390_371.out
                            have hnc82 := NB371_390.out
                            have hnb83 := NB390_378.out
                            have hnc83 := NB378_390.out
                            have hnb84 := NB390_385.out
                            have hnc84 := NB385_390.out
                            have hcz85_0 : wr.cell? ⟨gb390, 0, none⟩ = some (.int .i64 x391000_4) := (blk_cell BK390.out 0).trans rfl
                            have hcz85_1 : wr.cell? ⟨gb390, 1, none⟩ = some (.int .i64 x391001_4) := (blk_cell BK390.out 1).trans rfl
                            have hfz85_0 := blk_frozen BK390.out 0
                            have hfz85_1 := blk_frozen BK390.out 1
                            have hnb86 := NB385_371.out
                            have hnc86 := NB371_385.out
                            have hnb87 := NB385_378.out
                            have hnc87 := NB378_385.out
                            have hcz88_0 : wr.cell? ⟨gb385, 0, none⟩ = some (.int .i64 t379) := (blk_cell BK385.out 0).trans rfl
                            have hcz88_1 : wr.cell? ⟨gb385, 1, none⟩ = some (.int .i64 t380) := (blk_cell BK385.out 1).trans rfl
                            have hcz88_2 : wr.cell? ⟨gb385, 2, none⟩ = some (.int .i64 t381) := (blk_cell BK385.out 2).trans rfl
                            have hcz88_3 : wr.cell? ⟨gb385, 3, none⟩ = some (.int .i64 t382) := (blk_cell BK385.out 3).trans rfl
                            have hcz88_4 : wr.cell? ⟨gb385, 4, none⟩ = some (.int .i64 t383) := (blk_cell BK385.out 4).trans rfl
                            have hfz88_0 := blk_frozen BK385.out 0
                            have hfz88_1 := blk_frozen BK385.out 1
                            have hfz88_2 := blk_frozen BK385.out 2
                            have hfz88_3 := blk_frozen BK385.out 3
                            have hfz88_4 := blk_frozen BK385.out 4
                            go_wp2
                            go_ret
                            exact ⟨by first | rfl | (simp [errW_none, errW_some] <;> rfl) | (simp [*, errW_none, errW_some] <;> rfl), by repeat (first | (with_reducible first | exact HB.out | apply below_alloc | apply pw_below_drewN | apply below_drew1 | refine below_set ?_ GE371.out | refine below_set ?_ GE378.out | refine below_set ?_ GE385.out | refine below_set ?_ GE390.out) | exact HB.out)⟩
                          · replace c81 := Bool.eq_false_iff.mpr c81
                            subst c81
                            have H1 : (some false) = some r := by rw [if_neg (show ¬ (false = true) by decide)] at H; exact H
                            clear H
                            have H := H1
                            clear H1
                            exact absurd ((Option.some.inj H).trans HRT.out) (by decide)

/-- THE ONE PURE STATEMENT of fringelaw20_SearchTurns: yours. -/
def fringelaw20_SearchTurns.Pure : Prop := ∀ (l0 : List Int) (l1 : List Int) (a2 : Int) (a3 : Int) (a4 : Int), l0.length ≤ maxLen → l0.length * 8 ≤ 140737488351232 → (∀ x ∈ l0, (Lit.int .i64 x).wf = true) → l1.length ≤ maxLen → l1.length * 8 ≤ 140737488351232 → (∀ x ∈ l1, (Lit.int .i64 x).wf = true) → (Lit.int .i64 a2).wf = true → (Lit.int .i64 a3).wf = true → (Lit.int .i64 a4).wf = true → ∃ k, fringelaw20_SearchTurns.f k l0 l1 a2 a3 a4 = some true
theorem fringelaw20_SearchTurns.walk (P : fringelaw20_SearchTurns.Pure) (a0 : Option Addr) (len0 cap0 : Nat) (z0 : List Int) (a1 : Option Addr) (len1 cap1 : Nat) (z1 : List Int) (a2 : Int) (a3 : Int) (a4 : Int) (w : World) (w0 : (a0 = none ∧ len0 = 0 ∧ cap0 = 0 ∧ z0 = []) ∨ ∃ x, a0 = some x ∧ len0 ≤ cap0 ∧ cap0 ≤ maxLen ∧ z0.length = cap0 ∧ (∀ i, i < z0.length → w.cell? (x.add i) = some (.int .i64 (z0.getD i 0))) ∧ ∀ n ∈ z0, (Lit.int .i64 n).wf = true) (y0 : len0 * 8 ≤ 140737488351232) (w1 : (a1 = none ∧ len1 = 0 ∧ cap1 = 0 ∧ z1 = []) ∨ ∃ x, a1 = some x ∧ len1 ≤ cap1 ∧ cap1 ≤ maxLen ∧ z1.length = cap1 ∧ (∀ i, i < z1.length → w.cell? (x.add i) = some (.int .i64 (z1.getD i 0))) ∧ ∀ n ∈ z1, (Lit.int .i64 n).wf = true) (y1 : len1 * 8 ≤ 140737488351232) (w2 : (Lit.int .i64 a2).wf = true) (w3 : (Lit.int .i64 a3).wf = true) (w4 : (Lit.int .i64 a4).wf = true) :
    Calls Try.prog 7 #[.slice a0 len0 cap0, .slice a1 len1 cap1, .int .i64 a2, .int .i64 a3, .int .i64 a4] w fun e w' => e = .returned (.bool true) ∧ Below w.heap.size w w' := by
  obtain ⟨l0, rfl, hr0, hm0, hw0, hc0⟩ := ReadsInt.ofRowC w0
  obtain ⟨l1, rfl, hr1, hm1, hw1, hc1⟩ := ReadsInt.ofRowC w1
  obtain ⟨k, h⟩ := P l0 l1 a2 a3 a4 hm0 y0 hw0 hm1 y1 hw1 w2 w3 w4
  refine (fringelaw20_SearchTurns.calls k _ _ l0 _ _ l1 a2 a3 a4 true w (Kd.C_of_reads (d := (0 : Int)) (h1 := fun _ => rfl) hr0) hc0 (Kd.C_of_reads (d := (0 : Int)) (h1 := fun _ => rfl) hr1) hc1 rfl h).mono ?_
  rintro e w' ⟨rfl, hd⟩
  exact ⟨rfl, hd⟩

end Go.Proofs.Ytpooejjgaobcaaa.PAll
