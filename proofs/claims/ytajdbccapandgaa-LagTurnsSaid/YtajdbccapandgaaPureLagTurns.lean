import Derived.Test.YtajdbccapandgaaLU
import Derived.Test.YtajdbccapandgaaLO
import Derived.Test.YtajdbccapandgaaPAllx30
import Derived.Test.YtajdbccapandgaaPAllx20
import Derived.Test.YtajdbccapandgaaPAllx29
import Derived.Test.YtajdbccapandgaaPAllx12
set_option linter.unusedVariables false
set_option linter.unusedSectionVars false
namespace Go.Proofs.Ytajdbccapandgaa.Pure
open Go Go.RowKit Go.Proofs.Ytajdbccapandgaa.PAll Go.Proofs.YtajdbccapandgaaW.PrintWords Go.Proofs.YtajdbccapandgaaW.PrintLast SM LG

theorem lagE_flip (x y : List Int) (d : Int) : lagE x y d x.length = lagE y x (-d) y.length := by
  unfold lagE
  rw [tot_flip, cnt_flip]
/-! a list turned round -/
theorem rev_loop (l : List LG.SL) (hl : l.length ≤ 1000) : ∀ (m i : Nat) (L : List LG.SL), l.length ≤ 2 * i + 2 * m + 1 → L.length = l.length → 2 * i ≤ l.length →
    (∀ j, j < l.length → L[j]? = if j < i ∨ l.length ≤ j + i then l[l.length - 1 - j]? else l[j]?) →
    Ev (fun k => api_Lag_30.l0 k L i ((l.length : Int) - 1 - i)) l.reverse := by
  intro m
  induction m with
  | zero =>
    intro i L h1 h2 h3 h4
    refine Ev.step (fun k => api_Lag_30.l0.eq_2 _ _ _ k) (evn (by omega) ?_)
    have : L = l.reverse := by
      apply List.ext_getElem?
      intro j
      by_cases hj : j < l.length
      · rw [h4 j hj, List.getElem?_reverse hj]
        by_cases hc : j < i ∨ l.length ≤ j + i
        · rw [if_pos hc]
        · rw [if_neg hc]
          have : l.length - 1 - j = j := by omega
          rw [this]
      · rw [List.getElem?_eq_none (by omega), List.getElem?_eq_none (by rw [List.length_reverse]; omega)]
    rw [this]
    exact Ev.now _
  | succ m ih =>
    intro i L h1 h2 h3 h4
    by_cases hlt : (i : Int) < (l.length : Int) - 1 - i
    · refine Ev.step (fun k => api_Lag_30.l0.eq_2 _ _ _ k) (evp hlt ?_)
      have hi : i < l.length := by omega
      have hj : l.length - 1 - i < l.length := by omega
      have ei : L[i]? = some l[i] := by rw [h4 i hi, if_neg (by omega), List.getElem?_eq_getElem hi]
      have ej : L[l.length - 1 - i]? = some l[l.length - 1 - i] := by rw [h4 _ hj, if_neg (by omega), List.getElem?_eq_getElem hj]
      have ejz : (l.length : Int) - 1 - i = ((l.length - 1 - i : Nat) : Int) := by omega
      rw [ejz, rdL _ _ _ ei, rdL _ _ _ ej, succ1 (by omega), w64 (by omega) (by omega), Int.toNat_natCast, Int.toNat_natCast]
      rw [show ((l.length - 1 - i : Nat) : Int) - 1 = (l.length : Int) - 1 - ((i + 1 : Nat) : Int) by omega]
      refine evp (by omega) (evp (by omega) (evp (by omega) (evp (by omega) (ih (i + 1) _ (by omega) (by simp [h2]) (by omega) (fun j hj' => ?_)))))
      rw [List.getElem?_set, List.getElem?_set]
      simp only [List.length_set]
      by_cases c1 : l.length - 1 - i = j
      · rw [if_pos c1, if_pos (by omega), if_pos (by omega)]
        have : l.length - 1 - j = i := by omega
        rw [this, List.getElem?_eq_getElem hi]
      · rw [if_neg c1]
        by_cases c2 : i = j
        · rw [if_pos c2, if_pos (by omega), if_pos (by omega)]
          subst c2
          rw [List.getElem?_eq_getElem hj]
        · rw [if_neg c2, h4 j hj']
          by_cases c3 : j < i ∨ l.length ≤ j + i
          · rw [if_pos c3, if_pos (by omega)]
          · rw [if_neg c3, if_neg (by omega)]
    · refine ih i L (by omega) h2 h3 h4
theorem flip_ev {l : List LG.SL} (h : ∀ e ∈ l, okE e) (h1 : l.length % 2 = 1) (h2 : l.length ≤ 511) : Ev (fun k => lag_Flip.f k l) (l.reverse, 0) := by
  refine Ev.congr (fun k => lag_Flip.f.eq_1 k _) ?_
  rw [Check_ok h h1 h2]
  have e : api_Lag_29.f l = some l := by
    unfold api_Lag_29.f
    simp
    omega
  rw [e]
  have hr : Ev (fun k => api_Lag_30.f k l) l.reverse := by
    refine Ev.congr (fun k => api_Lag_30.f.eq_1 k _) ?_
    have := rev_loop l (by omega) l.length 0 l (by omega) rfl (by omega) (fun j hj => by rw [if_neg (by omega)])
    rw [w64 (by omega) (by omega)]
    rw [show (l.length : Int) - 1 - ((0 : Nat) : Int) = (l.length : Int) - 1 by omega] at this
    exact this
  exact Ev.bind (Ev.now _) (evp rfl (Ev.bind (Ev.now _) (Ev.bind hr (Ev.now _))))
theorem SL_same (l : List LG.SL) : ∀ (m i : Nat), i + m = l.length → l.length ≤ 1000 → Ev (fun k => fringeref16_Same.l0 k l l i) true := by
  intro m
  induction m with
  | zero =>
    intro i hi hl
    exact Ev.step (fun k => fringeref16_Same.l0.eq_2 _ _ _ k) (evn (by omega) (Ev.now _))
  | succ m ih =>
    intro i hi hl
    refine Ev.step (fun k => fringeref16_Same.l0.eq_2 _ _ _ k) (evp (by omega) (evp (by omega) (evp (by omega) (evn (by simp) ?_))))
    rw [succ1 (by omega)]
    exact ih (i + 1) (by omega) hl
theorem same_ev {l : List LG.SL} (h : l.length ≤ 1000) : Ev (fun k => fringeref16_Same.f k l l) true :=
  Ev.congr (fun k => fringeref16_Same.f.eq_1 k _ _) (evp rfl (SL_same l l.length 0 (Nat.zero_add _) h))
theorem lag_rev (x y : List Int) (M : Nat) : (lagL y x M (2 * M + 1)).reverse = lagL x y M (2 * M + 1) := by
  apply List.ext_getElem?
  intro j
  by_cases hj : j < 2 * M + 1
  · rw [List.getElem?_reverse (by rw [lagL_length]; exact hj), lagL_length, lagL_get _ _ _ _ _ hj, lagL_get _ _ _ _ _ (by omega), lagE_flip x y]
    have : ((2 * M + 1 - 1 - j : Nat) : Int) - M = -((j : Int) - M) := by omega
    rw [this]
  · rw [List.getElem?_eq_none (by rw [List.length_reverse, lagL_length]; omega), List.getElem?_eq_none (by rw [lagL_length]; omega)]
/-! the peak of a stream with itself -/
section
variable {x : List Int} {M : Nat} (hM : M ≤ 255)
include hM
theorem peak_l0 : ∀ (m i : Nat), i + m = M + 1 → Ev (fun k => lag_Peak.l0 k (lagL x x M (2 * M + 1)) M 0 ((M + 1 : Nat) : Int) i) (0, 0) := by
  have at_ : ∀ d : Int, -(M : Int) ≤ d → d ≤ M → rd_T39 (lagL x x M (2 * M + 1)) ((M : Int) + d) = lagE x x d x.length := by
    intro d h1 h2
    obtain ⟨j, hj⟩ := Int.eq_ofNat_of_zero_le (show 0 ≤ (M : Int) + d by omega)
    have := rdL _ _ _ (lagL_get x x M j (2 * M + 1) (by omega))
    rw [show (j : Int) - M = d by omega] at this
    rw [hj]
    exact this
  intro m
  induction m with
  | zero =>
    intro i hi
    exact Ev.step (fun k => lag_Peak.l0.eq_2 _ _ _ _ _ k) (evn (by omega) (Ev.now _))
  | succ m ih =>
    intro i hi
    have ih := ih (i + 1) (by omega)
    refine Ev.step (fun k => lag_Peak.l0.eq_2 _ _ _ _ _ k) (evp (by omega) (Ev.bind (Ev.now _) ?_))
    rw [w64 (x := -(i : Int)) (by omega) (by omega)]
    have r0 : rd [-(i : Int), (i : Int)] 0 = -(i : Int) := rfl
    have r1 : rd [-(i : Int), (i : Int)] 1 = (i : Int) := rfl
    have n0 : wrap64 ((0 : Int) + 1) = 1 := by rw [w64 (by decide) (by decide)]; rfl
    have n1 : wrap64 ((1 : Int) + 1) = 2 := by rw [w64 (by decide) (by decide)]; rfl
    have a0 := at_ 0 (by omega) (by omega)
    have a1 := at_ (-(i : Int)) (by omega) (by omega)
    have a2 := at_ (i : Int) (by omega) (by omega)
    have l1 := tot_le x (-(i : Int))
    have l2 := tot_le x (i : Int)
    refine Ev.step (fun k => lag_Peak.l1.eq_2 _ _ _ _ _ _ _ _ k) ?_
    rw [r0, n0, w64 (x := (M : Int) + -(i : Int)) (by omega) (by omega), w64 (x := (M : Int) + 0) (by omega) (by omega), a0, a1, lagL_length]
    refine evp (by simp) (evp (by omega) (evp (by simp) (evp (by omega) (evp (by omega) (evp (by omega) (evp (by omega) (evn (by unfold lagE; dsimp only; omega) ?_)))))))
    refine Ev.step (fun k => lag_Peak.l1.eq_2 _ _ _ _ _ _ _ _ k) ?_
    rw [r1, n1, w64 (x := (M : Int) + (i : Int)) (by omega) (by omega), w64 (x := (M : Int) + 0) (by omega) (by omega), a0, a2, lagL_length]
    refine evp (by simp) (evp (by omega) (evp (by simp) (evp (by omega) (evp (by omega) (evp (by omega) (evp (by omega) (evn (by unfold lagE; dsimp only; omega) ?_)))))))
    refine Ev.step (fun k => lag_Peak.l1.eq_2 _ _ _ _ _ _ _ _ k) (evn (by simp) ?_)
    rw [succ1 (by omega)]
    exact ih
theorem peak_ev (hx : str x) : Ev (fun k => lag_Peak.f k (lagL x x M (2 * M + 1))) (0, if allz x x.length = true then 18 else 0) := by
  have hok := lagL_ok hx hx M (2 * M + 1)
  have hlen := lagL_length x x M (2 * M + 1)
  refine Ev.congr (fun k => lag_Peak.f.eq_1 k _) ?_
  rw [Check_ok hok (by rw [hlen]; omega) (by rw [hlen]; omega)]
  refine Ev.bind (Ev.now _) (evp rfl ?_)
  by_cases h : allz x x.length = true
  · rw [if_pos h]
    have hz := allz_true h
    have : (lagL x x M (2 * M + 1)).any lag_some = false := by
      rw [List.any_eq_false]
      intro e he
      obtain ⟨j, hj⟩ := List.mem_iff_getElem?.1 he
      have hj2 : j < 2 * M + 1 := by
        rcases Nat.lt_or_ge j (2 * M + 1) with h | h
        · exact h
        · rw [List.getElem?_eq_none (by omega)] at hj; cases hj
      rw [lagL_get _ _ _ _ _ hj2] at hj
      obtain rfl := Option.some.inj hj
      unfold lag_some lagE
      dsimp only
      rw [cnt_zero hz _ _ (Nat.le_refl _)]
      simp
    refine Ev.bind (Ev.now (α := Bool) false |> fun z => Ev.congr (fun k => by unfold lag_Peak_1_with_fringe_lag_Peak_1.f; rw [this]) z) ?_
    exact evn (by decide) (Ev.now _)
  · rw [if_neg h]
    obtain ⟨k, hk, hne⟩ := allz_false (Bool.eq_false_iff.2 h)
    have : (lagL x x M (2 * M + 1)).any lag_some = true := by
      rw [List.any_eq_true]
      refine ⟨lagE x x 0 x.length, ?_, ?_⟩
      · have := lagL_get x x M M (2 * M + 1) (by omega)
        rw [show (M : Int) - M = 0 by omega] at this
        exact List.mem_of_getElem? this
      · unfold lag_some lagE
        dsimp only
        have := cnt_pos hne hk x.length hk
        exact decide_eq_true this
    refine Ev.bind (Ev.now (α := Bool) true |> fun z => Ev.congr (fun k => by unfold lag_Peak_1_with_fringe_lag_Peak_1.f; rw [this]) z) ?_
    have e : wrap64 (((lagL x x M (2 * M + 1)).length : Int) / 2) = (M : Int) := by
      rw [hlen, w64 (by omega) (by omega)]
      omega
    rw [e, succ1 (by omega)]
    exact evp rfl (peak_l0 hM (M + 1) 0 (Nat.zero_add _))
end
theorem turns_end {x : List Int} (hx : str x) {p q : Int} (hp : p = 0) (hq : q = if allz x x.length = true then 18 else 0) : ∀ (m i : Nat), i + m = x.length →
    Ev (fun k => fringelaw16_LagTurns.l0 k x true p q (allz x i) i) true := by
  have hl := hx.1
  intro m
  induction m with
  | zero =>
    intro i hi
    have : i = x.length := by omega
    subst this
    refine Ev.step (fun k => fringelaw16_LagTurns.l0.eq_2 _ _ _ _ _ _ k) (evn (by omega) (evp rfl ?_))
    by_cases h : allz x x.length = true
    · rw [if_pos h] at hq
      exact evp h (evp hq (Ev.now _))
    · rw [if_neg h] at hq
      refine evn h (evp hq ?_)
      rw [hp]
      exact Ev.now _
  | succ m ih =>
    intro i hi
    have ih := ih (i + 1) (by omega)
    rw [allz] at ih
    refine Ev.step (fun k => fringelaw16_LagTurns.l0.eq_2 _ _ _ _ _ _ k) (evp (by omega) ?_)
    rw [rdD, succ1 (by omega)]
    by_cases h : allz x i = true
    · rw [if_pos h] at ih
      exact evp h (evp (by omega) ih)
    · rw [if_neg h] at ih
      exact evn h ih
theorem turns_t (x y : List Int) (a2 : Int) : Ev (fun k => fringelaw16_LagTurns.j0 k x y a2 true true) true := Ev.step (fun k => fringelaw16_LagTurns.j0.eq_2 _ _ _ _ _ k) (evp rfl (Ev.now _))
theorem LagTurns : fringelaw16_LagTurns.Pure := by
  intro x y a2 _ _ _ _ _ _ _
  refine Ev.rounds (Ev.congr (fun k => fringelaw16_LagTurns.f.eq_1 k _ _ _) ?_)
  refine Ev.bind (g := fun k => fringelaw16_alive.f) (a := true) (Ev.now _) (fits (turns_t _ _ _) fun hx hy => ?_)
  by_cases c1 : a2 < 0
  · exact evp c1 (turns_t _ _ _)
  refine evn c1 ?_
  by_cases c2 : a2 > 255
  · exact evp c2 (turns_t _ _ _)
  refine evn c2 ?_
  obtain ⟨M, rfl⟩ := Int.eq_ofNat_of_zero_le (show 0 ≤ a2 by omega)
  have e : wrap64 (wrap64 (2 * (M : Int)) + 1) = ((2 * M + 1 : Nat) : Int) := by
    rw [w64 (x := 2 * (M : Int)) (by omega) (by omega), w64 (by omega) (by omega)]
    omega
  refine Ev.step (fun k => fringelaw16_LagTurns.j0.eq_2 _ _ _ _ _ k) (evn (by decide) ?_)
  rw [e]
  refine Ev.bind (lag_ev hx hy (by omega)) (Ev.bind (lag_ev hy hx (by omega)) (Ev.bind (flip_ev (lagL_ok hy hx M _) (by rw [lagL_length]; omega) (by rw [lagL_length]; omega)) (Ev.bind (lag_ev hx hx (by omega)) (Ev.bind (peak_ev (by omega) hx) (evp rfl (evp rfl (evp rfl (evp rfl (evp (by rw [lagL_length]) ?_)))))))))
  dsimp only
  rw [lag_rev]
  refine Ev.bind (same_ev (by rw [lagL_length]; omega)) ?_
  refine Ev.step (fun k => fringelaw16_LagTurns.j1.eq_2 _ _ _ _ _ k) (evn (by decide) ?_)
  exact turns_end hx rfl rfl x.length 0 (Nat.zero_add _)
end Go.Proofs.Ytajdbccapandgaa.Pure
