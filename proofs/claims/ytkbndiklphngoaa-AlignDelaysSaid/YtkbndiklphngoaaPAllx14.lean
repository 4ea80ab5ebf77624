-- Written by a program of this session, after the kit's print
import Derived.Test.YtkbndiklphngoaaPAllx0
import Derived.Test.YtkbndiklphngoaaPAllx2
import Derived.Test.YtkbndiklphngoaaPAllx6
import Derived.Test.YtkbndiklphngoaaPAllx9
import Derived.Test.YtkbndiklphngoaaPAllx10
import Derived.Test.YtkbndiklphngoaaPAllx11
import Derived.Test.YtkbndiklphngoaaPAllx12
import Derived.Test.YtkbndiklphngoaaPAllx13
namespace Go.Proofs.Ytkbndiklphngoaa.PAll
open Go.RowKit Go.Proofs.YtkbndiklphngoaaW.PrintWords Go.Proofs.YtkbndiklphngoaaW.PrintLast Go.Proofs.YtkbndiklphngoaaW.PrintMore
attribute [local go_sem] max2_int min2_int max_two min_two max_three min_three max_four min_four   -- for this text's walks alone
set_option linter.unusedVariables false
set_option linter.unusedSimpArgs false

/-! ### fringelaw14_AlignDelays: function 3 -/
def fringelaw14_AlignDelays.f (k : Nat) (l0 : List Int) (a1 : Int) : Option (Bool) := (fringeref13_Long.f l0).bind fun t148 => (if t148 = true then (some true) else ((some (([] : List Int) : List Int)).bind fun y149 => (if y149.length + l0.length < 17592186044416 then ((some (y149 ++ l0 : List Int)).bind fun y152 => ((align_Delay.f k y152 a1).bind fun bt155 => ((fringeref14_Delay.f k l0 a1).bind fun bt159 => ((align_Gaps.f k y152).bind fun bt163 => ((fringeref14_Gaps.f k l0).bind fun bt167 => ((fringeref13_Same.f k bt155.1 bt159.1).bind fun t171 => (if t171 = true then (if bt155.2 = bt159.2 then ((fringeref14_SameGaps.f k bt163.1 bt167.1).bind fun t172 => (if t172 = true then (if bt163.2 = bt167.2 then ((fringeref13_Same.f k y152 l0).bind fun t173 => (some t173)) else (some false)) else (some false))) else (some false)) else (some false)))))))) else (none))))
theorem fringelaw14_AlignDelays.mono : ∀ a0 a1 k, LeO (fringelaw14_AlignDelays.f k a0 a1) (fringelaw14_AlignDelays.f (k + 1) a0 a1) := by
  intro a0 a1 k
  unfold fringelaw14_AlignDelays.f
  repeat' first
      | (with_reducible exact align_Delay.mono _ _ _)
      | (with_reducible exact align_Gaps.mono _ _)
      | (with_reducible exact fringeref13_Same.mono _ _ _)
      | (with_reducible exact fringeref14_Delay.mono _ _ _)
      | (with_reducible exact fringeref14_Gaps.mono _ _)
      | (with_reducible exact fringeref14_SameGaps.mono _ _ _)
      | (with_reducible exact LeO.refl _)
      | (with_reducible exact LeO.none _)
      | (with_reducible refine LeO.ite ?_ ?_)
      | (with_reducible refine LeO.bind ?_ (fun _ => ?_))
      | exact align_Delay.mono _ _ _
      | exact align_Gaps.mono _ _
      | exact fringeref13_Same.mono _ _ _
      | exact fringeref14_Delay.mono _ _ _
      | exact fringeref14_Gaps.mono _ _
      | exact fringeref14_SameGaps.mono _ _ _
      | exact LeO.none _
      | refine LeO.ite ?_ ?_
      | refine LeO.bind ?_ (fun _ => ?_)
set_option maxHeartbeats 8000000 in
set_option maxRecDepth 100000 in
theorem fringelaw14_AlignDelays.calls (k : Nat) (A0 : Option Addr) (c0 : Nat) (l0 : List Int) (a1 : Int) (r : Bool) (w : World) (hr0 : Kd.C (Kd.int .i64) w A0 l0.length l0) (hc0 : l0.length ≤ c0) (hrt : r = true) (h : fringelaw14_AlignDelays.f k l0 a1 = some r) :
    Calls Try.prog 3 #[.slice A0 l0.length c0, .int .i64 a1] w fun e w' => e = .returned (.bool r) ∧ Below w.heap.size w w' := by
  have HR0 := Aside0.mk hr0
  have HC0 := Aside0.mk hc0
  clear hr0 hc0
  have HB := Aside0.mk (Below.refl w.heap.size w)
  have HRT := Aside0.mk hrt
  clear hrt
  have H : ((fringeref13_Long.f l0).bind fun t148 => (if t148 = true then (some true) else ((some (([] : List Int) : List Int)).bind fun y149 => (if y149.length + l0.length < 17592186044416 then ((some (y149 ++ l0 : List Int)).bind fun y152 => ((align_Delay.f k y152 a1).bind fun bt155 => ((fringeref14_Delay.f k l0 a1).bind fun bt159 => ((align_Gaps.f k y152).bind fun bt163 => ((fringeref14_Gaps.f k l0).bind fun bt167 => ((fringeref13_Same.f k bt155.1 bt159.1).bind fun t171 => (if t171 = true then (if bt155.2 = bt159.2 then ((fringeref14_SameGaps.f k bt163.1 bt167.1).bind fun t172 => (if t172 = true then (if bt163.2 = bt167.2 then ((fringeref13_Same.f k y152 l0).bind fun t173 => (some t173)) else (some false)) else (some false))) else (some false)) else (some false)))))))) else (none))))) = some r := h
  clear h
  replace H := Option.bind_eq_some_iff.mp H
  obtain ⟨t148, A30, H⟩ := H
  replace H : (if t148 = true then (some true) else ((some (([] : List Int) : List Int)).bind fun y149 => (if y149.length + l0.length < 17592186044416 then ((some (y149 ++ l0 : List Int)).bind fun y152 => ((align_Delay.f k y152 a1).bind fun bt155 => ((fringeref14_Delay.f k l0 a1).bind fun bt159 => ((align_Gaps.f k y152).bind fun bt163 => ((fringeref14_Gaps.f k l0).bind fun bt167 => ((fringeref13_Same.f k bt155.1 bt159.1).bind fun t171 => (if t171 = true then (if bt155.2 = bt159.2 then ((fringeref14_SameGaps.f k bt163.1 bt167.1).bind fun t172 => (if t172 = true then (if bt163.2 = bt167.2 then ((fringeref13_Same.f k y152 l0).bind fun t173 => (some t173)) else (some false)) else (some false))) else (some false)) else (some false)))))))) else (none)))) = some r := H
  have A3 := Aside0.mk A30
  clear A30
  by_cases c4 : t148 = true
  · subst c4
    have H1 : (some true) = some r := by rw [if_pos rfl] at H; exact H
    clear H
    have H := H1
    clear H1
    obtain rfl := Option.some.inj H
    go_enter Try.func3, Try.ntmps3
    go_wp2_with (first | ((with_reducible refine gate_callee (f := 8) rfl ?_); refine goesL_ (some 15) rfl rfl Try.func8 (by kernel_rfl) rfl #[.slice A0 l0.length c0] rfl (by (try simp only [List.map_toArray, List.map_cons, List.map_nil]); first | done | rfl | (simp only [List.length_drop, List.length_take]; rfl)) ?_; (with_reducible refine (fringeref13_Long.calls _ _ l0 true _ ?side1 ?side2 A3.out).mono ?_); (case side1 => repeat (first | exact HR0.out | (with_reducible refine Kd.C_alloc ?_ _) | (with_reducible refine Kd.C_drewN ?_ _) | (with_reducible refine Kd.C_drew ?_))); (case side2 => exact HC0.out); rintro e w' ⟨rfl, ⟨nd, rfl⟩⟩; refine ⟨_, rfl, ?_⟩))
    go_ret
    exact ⟨by first | rfl | (simp [errW_none, errW_some] <;> rfl) | (simp [*, errW_none, errW_some] <;> rfl), by repeat (first | (with_reducible first | exact HB.out | apply below_alloc | apply pw_below_drewN | apply below_drew1) | exact HB.out)⟩
  replace c4 := Bool.eq_false_iff.mpr c4
  subst c4
  have H1 : ((some (([] : List Int) : List Int)).bind fun y149 => (if y149.length + l0.length < 17592186044416 then ((some (y149 ++ l0 : List Int)).bind fun y152 => ((align_Delay.f k y152 a1).bind fun bt155 => ((fringeref14_Delay.f k l0 a1).bind fun bt159 => ((align_Gaps.f k y152).bind fun bt163 => ((fringeref14_Gaps.f k l0).bind fun bt167 => ((fringeref13_Same.f k bt155.1 bt159.1).bind fun t171 => (if t171 = true then (if bt155.2 = bt159.2 then ((fringeref14_SameGaps.f k bt163.1 bt167.1).bind fun t172 => (if t172 = true then (if bt163.2 = bt167.2 then ((fringeref13_Same.f k y152 l0).bind fun t173 => (some t173)) else (some false)) else (some false))) else (some false)) else (some false)))))))) else (none))) = some r := by rw [if_neg (show ¬ (false = true) by decide)] at H; exact H
  clear H
  have H := H1
  clear H1
  obtain ⟨y149, hy149⟩ : ∃ y_ : List Int, y_ = (([] : List Int)) := ⟨_, rfl⟩
  replace H : (if y149.length + l0.length < 17592186044416 then ((some (y149 ++ l0 : List Int)).bind fun y152 => ((align_Delay.f k y152 a1).bind fun bt155 => ((fringeref14_Delay.f k l0 a1).bind fun bt159 => ((align_Gaps.f k y152).bind fun bt163 => ((fringeref14_Gaps.f k l0).bind fun bt167 => ((fringeref13_Same.f k bt155.1 bt159.1).bind fun t171 => (if t171 = true then (if bt155.2 = bt159.2 then ((fringeref14_SameGaps.f k bt163.1 bt167.1).bind fun t172 => (if t172 = true then (if bt163.2 = bt167.2 then ((fringeref13_Same.f k y152 l0).bind fun t173 => (some t173)) else (some false)) else (some false))) else (some false)) else (some false)))))))) else (none)) = some r := by first | (rw [hy149]; with_reducible exact H) | (have H2_ := (Option.bind_some _ _).symm.trans H; rw [hy149]; with_reducible exact H2_) | (have H2_ := (Option.bind_some _ _).symm.trans H; with_reducible exact H2_) | with_reducible exact H | (rw [hy149]; exact H) | exact H
  have Ny149 := Aside0.mk hy149
  clear hy149
  by_cases c5 : y149.length + l0.length < 17592186044416
  rotate_left
  · rw [if_neg c5] at H
    exact absurd H (by simp)

  rw [if_pos c5] at H
  have LMc5 := Aside0.mk c5
  clear c5
  obtain ⟨y152, hy152⟩ : ∃ y_ : List Int, y_ = (y149 ++ l0) := ⟨_, rfl⟩
  replace H : ((align_Delay.f k y152 a1).bind fun bt155 => ((fringeref14_Delay.f k l0 a1).bind fun bt159 => ((align_Gaps.f k y152).bind fun bt163 => ((fringeref14_Gaps.f k l0).bind fun bt167 => ((fringeref13_Same.f k bt155.1 bt159.1).bind fun t171 => (if t171 = true then (if bt155.2 = bt159.2 then ((fringeref14_SameGaps.f k bt163.1 bt167.1).bind fun t172 => (if t172 = true then (if bt163.2 = bt167.2 then ((fringeref13_Same.f k y152 l0).bind fun t173 => (some t173)) else (some false)) else (some false))) else (some false)) else (some false))))))) = some r := by first | (rw [hy152]; with_reducible exact H) | (have H2_ := (Option.bind_some _ _).symm.trans H; rw [hy152]; with_reducible exact H2_) | (have H2_ := (Option.bind_some _ _).symm.trans H; with_reducible exact H2_) | with_reducible exact H | (rw [hy152]; exact H) | exact H
  have Ny152 := Aside0.mk hy152
  clear hy152
  replace H := Option.bind_eq_some_iff.mp H
  obtain ⟨⟨t155, t156⟩, A60, H⟩ := H
  replace H : ((fringeref14_Delay.f k l0 a1).bind fun bt159 => ((align_Gaps.f k y152).bind fun bt163 => ((fringeref14_Gaps.f k l0).bind fun bt167 => ((fringeref13_Same.f k t155 bt159.1).bind fun t171 => (if t171 = true then (if t156 = bt159.2 then ((fringeref14_SameGaps.f k bt163.1 bt167.1).bind fun t172 => (if t172 = true then (if bt163.2 = bt167.2 then ((fringeref13_Same.f k y152 l0).bind fun t173 => (some t173)) else (some false)) else (some false))) else (some false)) else (some false)))))) = some r := H
  have A6 := Aside0.mk A60
  clear A60
  replace H := Option.bind_eq_some_iff.mp H
  obtain ⟨⟨t159, t160⟩, A70, H⟩ := H
  replace H : ((align_Gaps.f k y152).bind fun bt163 => ((fringeref14_Gaps.f k l0).bind fun bt167 => ((fringeref13_Same.f k t155 t159).bind fun t171 => (if t171 = true then (if t156 = t160 then ((fringeref14_SameGaps.f k bt163.1 bt167.1).bind fun t172 => (if t172 = true then (if bt163.2 = bt167.2 then ((fringeref13_Same.f k y152 l0).bind fun t173 => (some t173)) else (some false)) else (some false))) else (some false)) else (some false))))) = some r := H
  have A7 := Aside0.mk A70
  clear A70
  replace H := Option.bind_eq_some_iff.mp H
  obtain ⟨⟨t163, t164⟩, A80, H⟩ := H
  replace H : ((fringeref14_Gaps.f k l0).bind fun bt167 => ((fringeref13_Same.f k t155 t159).bind fun t171 => (if t171 = true then (if t156 = t160 then ((fringeref14_SameGaps.f k t163 bt167.1).bind fun t172 => (if t172 = true then (if t164 = bt167.2 then ((fringeref13_Same.f k y152 l0).bind fun t173 => (some t173)) else (some false)) else (some false))) else (some false)) else (some false)))) = some r := H
  have A8 := Aside0.mk A80
  clear A80
  replace H := Option.bind_eq_some_iff.mp H
  obtain ⟨⟨t167, t168⟩, A90, H⟩ := H
  replace H : ((fringeref13_Same.f k t155 t159).bind fun t171 => (if t171 = true then (if t156 = t160 then ((fringeref14_SameGaps.f k t163 t167).bind fun t172 => (if t172 = true then (if t164 = t168 then ((fringeref13_Same.f k y152 l0).bind fun t173 => (some t173)) else (some false)) else (some false))) else (some false)) else (some false))) = some r := H
  have A9 := Aside0.mk A90
  clear A90
  replace H := Option.bind_eq_some_iff.mp H
  obtain ⟨t171, A100, H⟩ := H
  replace H : (if t171 = true then (if t156 = t160 then ((fringeref14_SameGaps.f k t163 t167).bind fun t172 => (if t172 = true then (if t164 = t168 then ((fringeref13_Same.f k y152 l0).bind fun t173 => (some t173)) else (some false)) else (some false))) else (some false)) else (some false)) = some r := H
  have A10 := Aside0.mk A100
  clear A100
  by_cases c11 : t171 = true
  rotate_left
  · replace c11 := Bool.eq_false_iff.mpr c11
    subst c11
    have H1 : (some false) = some r := by rw [if_neg (show ¬ (false = true) by decide)] at H; exact H
    clear H
    have H := H1
    clear H1
    exact absurd ((Option.some.inj H).trans HRT.out) (by decide)
  subst c11
  have H1 : (if t156 = t160 then ((fringeref14_SameGaps.f k t163 t167).bind fun t172 => (if t172 = true then (if t164 = t168 then ((fringeref13_Same.f k y152 l0).bind fun t173 => (some t173)) else (some false)) else (some false))) else (some false)) = some r := by rw [if_pos rfl] at H; exact H
  clear H
  have H := H1
  clear H1
  by_cases c12 : t156 = t160
  rotate_left
  · rw [if_neg c12] at H
    have c12b0 : (t156 == t160) = false := beq_eq_false_iff_ne.mpr c12
    have c12b1 : (t156 != t160) = true := bne_iff_ne.mpr c12
    exact absurd ((Option.some.inj H).trans HRT.out) (by decide)
  rw [if_pos c12] at H
  have c12b0 : (t156 == t160) = true := beq_iff_eq.mpr c12
  have c12b1 : (t156 != t160) = false := bne_eq_false_iff_eq.mpr c12
  clear c12
  replace H := Option.bind_eq_some_iff.mp H
  obtain ⟨t172, A130, H⟩ := H
  replace H : (if t172 = true then (if t164 = t168 then ((fringeref13_Same.f k y152 l0).bind fun t173 => (some t173)) else (some false)) else (some false)) = some r := H
  have A13 := Aside0.mk A130
  clear A130
  by_cases c14 : t172 = true
  rotate_left
  · replace c14 := Bool.eq_false_iff.mpr c14
    subst c14
    have H1 : (some false) = some r := by rw [if_neg (show ¬ (false = true) by decide)] at H; exact H
    clear H
    have H := H1
    clear H1
    exact absurd ((Option.some.inj H).trans HRT.out) (by decide)
  subst c14
  have H1 : (if t164 = t168 then ((fringeref13_Same.f k y152 l0).bind fun t173 => (some t173)) else (some false)) = some r := by rw [if_pos rfl] at H; exact H
  clear H
  have H := H1
  clear H1
  by_cases c15 : t164 = t168
  rotate_left
  · rw [if_neg c15] at H
    have c15b0 : (t164 == t168) = false := beq_eq_false_iff_ne.mpr c15
    have c15b1 : (t164 != t168) = true := bne_iff_ne.mpr c15
    exact absurd ((Option.some.inj H).trans HRT.out) (by decide)
  rw [if_pos c15] at H
  have c15b0 : (t164 == t168) = true := beq_iff_eq.mpr c15
  have c15b1 : (t164 != t168) = false := bne_eq_false_iff_eq.mpr c15
  clear c15
  replace H := Option.bind_eq_some_iff.mp H
  obtain ⟨t173, A160, H⟩ := H
  replace H : (some t173) = some r := H
  have A16 := Aside0.mk A160
  clear A160
  obtain rfl := Option.some.inj H
  go_enter Try.func3, Try.ntmps3
  go_wp2_with (first | ((with_reducible refine gate_callee (f := 8) rfl ?_); refine goesL_ (some 15) rfl rfl Try.func8 (by kernel_rfl) rfl #[.slice A0 l0.length c0] rfl (by (try simp only [List.map_toArray, List.map_cons, List.map_nil]); first | done | rfl | (simp only [List.length_drop, List.length_take]; rfl)) ?_; (with_reducible refine (fringeref13_Long.calls _ _ l0 false _ ?side1 ?side2 A3.out).mono ?_); (case side1 => repeat (first | exact HR0.out | (with_reducible refine Kd.C_alloc ?_ _) | (with_reducible refine Kd.C_drewN ?_ _) | (with_reducible refine Kd.C_drew ?_))); (case side2 => exact HC0.out); rintro e w' ⟨rfl, ⟨nd, rfl⟩⟩; refine ⟨_, rfl, ?_⟩) | ((with_reducible refine gate_dst (N := 16) rfl ?_); refine Kd.R_lit (Kd.int .i64) _ 3 ?hg (N := 16) ?hd (xs := ([] : List Int)) (inner := []) (ok := fun _ => True) (okp := fun _ => True) ?hr ?hp (fun _ hk => hk) trivial (Below.refl _ _) (Nat.le_refl _) (by simp) ?_; (case hd => rfl); (case hg => rfl); (case hr => first | (go_simp; done) | (go_simp; rfl)); (case hp => exact (Reps.none _ _)); intro v150 w17 ho18 hb hg_ hnew_; clear hg_ hnew_; (first | rw [← Ny149.out] at ho18 | (simp only [Int.reduceToNat] at ho18; rw [← Ny149.out] at ho18)); have n0_ := Aside0.mk (Kd.R_lower ho18 (below_size (by repeat (first | (with_reducible first | exact HB.out | apply below_alloc | apply pw_below_drewN | apply below_drew1) | exact HB.out)))); have n1_ := Aside0.mk (below_step (by repeat (first | (with_reducible first | exact HB.out | apply below_alloc | apply pw_below_drewN | apply below_drew1) | exact HB.out)) hb); clear HB; have HO151 := n0_; have HB := n1_; clear n0_ n1_; clear hb ho18) | ((with_reducible refine gate_builtin (b := .append) (xs := #[.tmp 16, .tmp 17]) rfl ?_); at_builtin; refine Kd.R_append_rows (Kd.int .i64) (w0 := w) w.heap.size rfl (.tmp 16) (.tmp 17) 22 3 (.int .i64 0) 8 rfl Try.underlying22 info3 rfl (by decide) (by omega) v150 y149 l0 _ _ _ (fun _ => True) (fun _ => False) rfl rfl ?aO ?aR (fun _ _ h => h) (fun _ h => h.elim) ?aF ?aB ?aS ?aL ?_; (case aR => repeat (first | exact (Kd.C_below HR0.out HB.out) | (with_reducible refine Kd.C_alloc ?_ _) | (with_reducible refine Kd.C_drewN ?_ _) | (with_reducible refine Kd.C_drew ?_))); (case aB => exact (by repeat (first | (with_reducible first | exact HB.out | apply below_alloc | apply pw_below_drewN | apply below_drew1) | exact HB.out))); (case aF => exact (fun _ _ => trivial)); (case aO => exact (by (with_reducible repeat (first | apply Kd.R_alloc | apply Kd.R_drewN | apply Kd.R_drew)); exact HO151.out)); (case aS => exact (below_size (by repeat (first | (with_reducible first | exact HB.out | apply below_alloc | apply pw_below_drewN | apply below_drew1) | exact HB.out)))); (case aL => have := LMc5.out; omega); intro v153 w19 ho hb hg hat; rw [← Ny152.out] at ho; have n0_ := Aside0.mk (hb); have n1_ := Aside0.mk (ho); clear HB; clear HO151; have HB := n0_; have HO154 := n1_; clear n0_ n1_; clear ho hb hg hat; obtain ⟨Ao20, co20, eo20⟩ := Kd.R_slice HO154.out; subst eo20) | ((with_reducible refine gate_callee (f := 9) rfl ?_); refine goesL_ (some 22) rfl rfl Try.func9 (by kernel_rfl) rfl #[.slice Ao20 y152.length co20, .int .i64 a1] rfl (by (try simp only [List.map_toArray, List.map_cons, List.map_nil]); first | done | rfl | (simp only [List.length_drop, List.length_take]; rfl)) ?_; (with_reducible refine (align_Delay.calls k _ _ y152 a1 t155 t156 _ ?side1 ?side2 A6.out).mono ?_); (case side1 => repeat (first | exact (Kd.R_reads' HO154.out).2.2 | (with_reducible refine Kd.C_alloc ?_ _) | (with_reducible refine Kd.C_drewN ?_ _) | (with_reducible refine Kd.C_drew ?_))); (case side2 => exact (Kd.R_reads' HO154.out).2.1); rintro e w21 ⟨v157, rfl, ho0, hb⟩; refine ⟨_, rfl, ?_⟩; have n0_ := Aside0.mk (Kd.R_elder' (by (with_reducible repeat (first | apply Kd.R_alloc | apply Kd.R_drewN | apply Kd.R_drew)); exact HO154.out) (Kd.R_base ho0) hb); have n1_ := Aside0.mk (Kd.R_lower (Kd.R_new' ho0 (Kd.R_lt (by (with_reducible repeat (first | apply Kd.R_alloc | apply Kd.R_drewN | apply Kd.R_drew)); exact HO154.out))) (below_size (by repeat (first | (with_reducible first | exact HB.out | apply below_alloc | apply pw_below_drewN | apply below_drew1) | exact HB.out)))); have n2_ := Aside0.mk (below_step (by repeat (first | (with_reducible first | exact HB.out | apply below_alloc | apply pw_below_drewN | apply below_drew1) | exact HB.out)) hb); clear HO154; clear HB; have HO154 := n0_; have HO158 := n1_; have HB := n2_; clear n0_ n1_ n2_; (try clear hb); (try clear hb2); (try clear hk); (try clear hi); (try clear ho0)) | ((with_reducible refine gate_callee (f := 10) rfl ?_); refine goesL_ (some 28) rfl rfl Try.func10 (by kernel_rfl) rfl #[.slice A0 l0.length c0, .int .i64 a1] rfl (by (try simp only [List.map_toArray, List.map_cons, List.map_nil]); first | done | rfl | (simp only [List.length_drop, List.length_take]; rfl)) ?_; (with_reducible refine (fringeref14_Delay.calls k _ _ l0 a1 t159 t160 _ ?side1 ?side2 A7.out).mono ?_); (case side1 => repeat (first | exact (Kd.C_below HR0.out HB.out) | (with_reducible refine Kd.C_alloc ?_ _) | (with_reducible refine Kd.C_drewN ?_ _) | (with_reducible refine Kd.C_drew ?_))); (case side2 => exact HC0.out); rintro e w22 ⟨v161, rfl, ho0, hb⟩; refine ⟨_, rfl, ?_⟩; have n0_ := Aside0.mk (Kd.R_elder' (by (with_reducible repeat (first | apply Kd.R_alloc | apply Kd.R_drewN | apply Kd.R_drew)); exact HO154.out) (Kd.R_base ho0) hb); have n1_ := Aside0.mk (Kd.R_elder' (by (with_reducible repeat (first | apply Kd.R_alloc | apply Kd.R_drewN | apply Kd.R_drew)); exact HO158.out) (Kd.R_base ho0) hb); have n2_ := Aside0.mk (Kd.R_lower (Kd.R_new' (Kd.R_new' ho0 (Kd.R_lt (by (with_reducible repeat (first | apply Kd.R_alloc | apply Kd.R_drewN | apply Kd.R_drew)); exact HO154.out))) (Kd.R_lt (by (with_reducible repeat (first | apply Kd.R_alloc | apply Kd.R_drewN | apply Kd.R_drew)); exact HO158.out))) (below_size (by repeat (first | (with_reducible first | exact HB.out | apply below_alloc | apply pw_below_drewN | apply below_drew1) | exact HB.out)))); have n3_ := Aside0.mk (below_step (by repeat (first | (with_reducible first | exact HB.out | apply below_alloc | apply pw_below_drewN | apply below_drew1) | exact HB.out)) hb); clear HO154; clear HO158; clear HB; have HO154 := n0_; have HO158 := n1_; have HO162 := n2_; have HB := n3_; clear n0_ n1_ n2_ n3_; (try clear hb); (try clear hb2); (try clear hk); (try clear hi); (try clear ho0)) | ((with_reducible refine gate_callee (f := 11) rfl ?_); refine goesL_ (some 33) rfl rfl Try.func11 (by kernel_rfl) rfl #[.slice Ao20 y152.length co20] rfl (by (try simp only [List.map_toArray, List.map_cons, List.map_nil]); first | done | rfl | (simp only [List.length_drop, List.length_take]; rfl)) ?_; (with_reducible refine (align_Gaps.calls k _ _ y152 t163 t164 _ ?side1 ?side2 A8.out).mono ?_); (case side1 => repeat (first | exact (Kd.R_reads' HO154.out).2.2 | (with_reducible refine Kd.C_alloc ?_ _) | (with_reducible refine Kd.C_drewN ?_ _) | (with_reducible refine Kd.C_drew ?_))); (case side2 => exact (Kd.R_reads' HO154.out).2.1); rintro e w23 ⟨v165, rfl, ho0, hb⟩; refine ⟨_, rfl, ?_⟩; have n0_ := Aside0.mk (Kd.R_below (by (with_reducible repeat (first | apply Kd.R_alloc | apply Kd.R_drewN | apply Kd.R_drew)); exact HO154.out) hb); have n1_ := Aside0.mk (Kd.R_below (by (with_reducible repeat (first | apply Kd.R_alloc | apply Kd.R_drewN | apply Kd.R_drew)); exact HO158.out) hb); have n2_ := Aside0.mk (Kd.R_below (by (with_reducible repeat (first | apply Kd.R_alloc | apply Kd.R_drewN | apply Kd.R_drew)); exact HO162.out) hb); have n3_ := Aside0.mk (Kd.R_lower ho0 (below_size (by repeat (first | (with_reducible first | exact HB.out | apply below_alloc | apply pw_below_drewN | apply below_drew1) | exact HB.out)))); have n4_ := Aside0.mk (below_step (by repeat (first | (with_reducible first | exact HB.out | apply below_alloc | apply pw_below_drewN | apply below_drew1) | exact HB.out)) hb); clear HO154; clear HO158; clear HO162; clear HB; have HO154 := n0_; have HO158 := n1_; have HO162 := n2_; have HO166 := n3_; have HB := n4_; clear n0_ n1_ n2_ n3_ n4_; (try clear hb); (try clear hb2); (try clear hk); (try clear hi); (try clear ho0)) | ((with_reducible refine gate_callee (f := 12) rfl ?_); refine goesL_ (some 38) rfl rfl Try.func12 (by kernel_rfl) rfl #[.slice A0 l0.length c0] rfl (by (try simp only [List.map_toArray, List.map_cons, List.map_nil]); first | done | rfl | (simp only [List.length_drop, List.length_take]; rfl)) ?_; (with_reducible refine (fringeref14_Gaps.calls k _ _ l0 t167 t168 _ ?side1 ?side2 A9.out).mono ?_); (case side1 => repeat (first | exact (Kd.C_below HR0.out HB.out) | (with_reducible refine Kd.C_alloc ?_ _) | (with_reducible refine Kd.C_drewN ?_ _) | (with_reducible refine Kd.C_drew ?_))); (case side2 => exact HC0.out); rintro e w24 ⟨v169, rfl, ho0, hb⟩; refine ⟨_, rfl, ?_⟩; have n0_ := Aside0.mk (Kd.R_below (by (with_reducible repeat (first | apply Kd.R_alloc | apply Kd.R_drewN | apply Kd.R_drew)); exact HO154.out) hb); have n1_ := Aside0.mk (Kd.R_below (by (with_reducible repeat (first | apply Kd.R_alloc | apply Kd.R_drewN | apply Kd.R_drew)); exact HO158.out) hb); have n2_ := Aside0.mk (Kd.R_below (by (with_reducible repeat (first | apply Kd.R_alloc | apply Kd.R_drewN | apply Kd.R_drew)); exact HO162.out) hb); have n3_ := Aside0.mk (Kd.R_elder' (by (with_reducible repeat (first | apply Kd.R_alloc | apply Kd.R_drewN | apply Kd.R_drew)); exact HO166.out) (Kd.R_base ho0) hb); have n4_ := Aside0.mk (Kd.R_lower (Kd.R_new' ho0 (Kd.R_lt (by (with_reducible repeat (first | apply Kd.R_alloc | apply Kd.R_drewN | apply Kd.R_drew)); exact HO166.out))) (below_size (by repeat (first | (with_reducible first | exact HB.out | apply below_alloc | apply pw_below_drewN | apply below_drew1) | exact HB.out)))); have n5_ := Aside0.mk (below_step (by repeat (first | (with_reducible first | exact HB.out | apply below_alloc | apply pw_below_drewN | apply below_drew1) | exact HB.out)) hb); clear HO154; clear HO158; clear HO162; clear HO166; clear HB; have HO154 := n0_; have HO158 := n1_; have HO162 := n2_; have HO166 := n3_; have HO170 := n4_; have HB := n5_; clear n0_ n1_ n2_ n3_ n4_ n5_; (try clear hb); (try clear hb2); (try clear hk); (try clear hi); (try clear ho0); obtain ⟨Ao25, co25, eo25⟩ := Kd.R_slice HO158.out; subst eo25; obtain ⟨Ao26, co26, eo26⟩ := Kd.R_slice HO162.out; subst eo26) | ((with_reducible refine gate_callee (f := 13) rfl ?_); refine goesL_ (some 43) rfl rfl Try.func13 (by kernel_rfl) rfl #[.slice Ao25 t155.length co25, .slice Ao26 t159.length co26] rfl (by (try simp only [List.map_toArray, List.map_cons, List.map_nil]); first | done | rfl | (simp only [List.length_drop, List.length_take]; rfl)) ?_; (with_reducible refine (fringeref13_Same.calls k _ _ t155 _ _ t159 true _ ?side1 ?side2 ?side3 ?side4 A10.out).mono ?_); (case side1 => repeat (first | exact (Kd.R_reads' HO158.out).2.2 | (with_reducible refine Kd.C_alloc ?_ _) | (with_reducible refine Kd.C_drewN ?_ _) | (with_reducible refine Kd.C_drew ?_))); (case side2 => exact (Kd.R_reads' HO158.out).2.1); (case side3 => repeat (first | exact (Kd.R_reads' HO162.out).2.2 | (with_reducible refine Kd.C_alloc ?_ _) | (with_reducible refine Kd.C_drewN ?_ _) | (with_reducible refine Kd.C_drew ?_))); (case side4 => exact (Kd.R_reads' HO162.out).2.1); rintro e w' ⟨rfl, ⟨nd, rfl⟩⟩; refine ⟨_, rfl, ?_⟩; obtain ⟨Ao27, co27, eo27⟩ := Kd.R_slice HO166.out; subst eo27; obtain ⟨Ao28, co28, eo28⟩ := Kd.R_slice HO170.out; subst eo28) | (go_at_call 14; (with_reducible refine (fringeref14_SameGaps.calls k _ _ t163 _ _ t167 true _ ?side1 ?side2 ?side3 ?side4 A13.out).mono ?_); (case side1 => repeat (first | exact (Kd.R_reads' HO166.out).2.2 | (with_reducible refine Kd.C_alloc ?_ _) | (with_reducible refine Kd.C_drewN ?_ _) | (with_reducible refine Kd.C_drew ?_))); (case side2 => exact (Kd.R_reads' HO166.out).2.1); (case side3 => repeat (first | exact (Kd.R_reads' HO170.out).2.2 | (with_reducible refine Kd.C_alloc ?_ _) | (with_reducible refine Kd.C_drewN ?_ _) | (with_reducible refine Kd.C_drew ?_))); (case side4 => exact (Kd.R_reads' HO170.out).2.1); rintro e w' ⟨rfl, ⟨nd, rfl⟩⟩) | (go_at_call 13; (with_reducible refine (fringeref13_Same.calls k _ _ y152 _ _ l0 t173 _ ?side1 ?side2 ?side3 ?side4 A16.out).mono ?_); (case side1 => repeat (first | exact (Kd.R_reads' HO154.out).2.2 | (with_reducible refine Kd.C_alloc ?_ _) | (with_reducible refine Kd.C_drewN ?_ _) | (with_reducible refine Kd.C_drew ?_))); (case side2 => exact (Kd.R_reads' HO154.out).2.1); (case side3 => repeat (first | exact (Kd.C_below HR0.out (by repeat (first | (with_reducible first | exact HB.out | apply below_alloc | apply pw_below_drewN | apply below_drew1) | exact HB.out))) | (with_reducible refine Kd.C_alloc ?_ _) | (with_reducible refine Kd.C_drewN ?_ _) | (with_reducible refine Kd.C_drew ?_))); (case side4 => exact HC0.out); rintro e w' ⟨rfl, ⟨nd, rfl⟩⟩))
  go_ret
  exact ⟨by first | rfl | (simp [errW_none, errW_some] <;> rfl) | (simp [*, errW_none, errW_some] <;> rfl), by repeat (first | (with_reducible first | exact HB.out | apply below_alloc | apply pw_below_drewN | apply below_drew1) | exact HB.out)⟩
/-- THE ONE PURE STATEMENT of fringelaw14_AlignDelays: yours. -/
def fringelaw14_AlignDelays.Pure : Prop := ∀ (l0 : List Int) (a1 : Int), l0.length ≤ maxLen → l0.length * 8 ≤ 140737488351232 → (∀ x ∈ l0, (Lit.int .i64 x).wf = true) → (Lit.int .i64 a1).wf = true → ∃ k, fringelaw14_AlignDelays.f k l0 a1 = some true
theorem fringelaw14_AlignDelays.walk (P : fringelaw14_AlignDelays.Pure) (a0 : Option Addr) (len0 cap0 : Nat) (z0 : List Int) (a1 : Int) (w : World) (w0 : (a0 = none ∧ len0 = 0 ∧ cap0 = 0 ∧ z0 = []) ∨ ∃ x, a0 = some x ∧ len0 ≤ cap0 ∧ cap0 ≤ maxLen ∧ z0.length = cap0 ∧ (∀ i, i < z0.length → w.cell? (x.add i) = some (.int .i64 (z0.getD i 0))) ∧ ∀ n ∈ z0, (Lit.int .i64 n).wf = true) (y0 : len0 * 8 ≤ 140737488351232) (w1 : (Lit.int .i64 a1).wf = true) :
    Calls Try.prog 3 #[.slice a0 len0 cap0, .int .i64 a1] w fun e w' => e = .returned (.bool true) ∧ Below w.heap.size w w' := by
  obtain ⟨l0, rfl, hr0, hm0, hw0, hc0⟩ := ReadsInt.ofRowC w0
  obtain ⟨k, h⟩ := P l0 a1 hm0 y0 hw0 w1
  refine (fringelaw14_AlignDelays.calls k _ _ l0 a1 true w (Kd.C_of_reads (d := (0 : Int)) (h1 := fun _ => rfl) hr0) hc0 rfl h).mono ?_
  rintro e w' ⟨rfl, hd⟩
  exact ⟨rfl, hd⟩

end Go.Proofs.Ytkbndiklphngoaa.PAll
