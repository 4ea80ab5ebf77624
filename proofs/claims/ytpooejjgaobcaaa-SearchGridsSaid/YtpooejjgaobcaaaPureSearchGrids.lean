import Derived.Test.YtpooejjgaobcaaaSL3
import Derived.Test.YtpooejjgaobcaaaPAllx9
set_option linter.unusedVariables false
set_option linter.unusedSectionVars false
namespace Go.Proofs.Ytpooejjgaobcaaa.Pure
open Go Go.RowKit Go.Proofs.Ytpooejjgaobcaaa.PAll Go.Proofs.YtpooejjgaobcaaaW.PrintWords Go.Proofs.YtpooejjgaobcaaaW.PrintLast SM SL

theorem grids_bad {x y : List Int} {a2 a3 : Int} (h : askE x y a3 ≠ 0) : Ev (fun k => fringelaw20_SearchGrids.j0 k x y a2 a3 false) true := by
  have g1 : Ev (fun k => search_Grid.f k x y a2 a3) ([], askE x y a3) := by
    refine Ev.congr (fun k => search_Grid.f.eq_1 k _ _ _ _) ?_
    rw [search_check_eq]
    exact Ev.bind (Ev.now _) (evn h (Ev.now _))
  have g2 : Ev (fun k => fringeref20_Grid.f k x y a2 a3) ([], askE x y a3) :=
    Ev.congr (fun k => fringeref20_Grid.f.eq_1 k _ _ _ _) (Ev.bind (asked_ev x y a3) (evn h (Ev.bind (asked_ev x y a3) (Ev.now _))))
  have g3 : Ev (fun k => search_Best.f k x y a2 a3) (0, 0, 0, 0, 0, askE x y a3) :=
    Ev.congr (fun k => search_Best.f.eq_1 k _ _ _ _) (Ev.bind g1 (evn h (Ev.now _)))
  have g4 : ∃ g : List S32 × Int, Ev (fun k => fringeref20_Grid.f k [] [] a2 1) g := by
    by_cases h0 : a2 < 0
    · refine ⟨([], 2), Ev.congr (fun k => fringeref20_Grid.f.eq_1 k _ _ _ _) (Ev.bind (asked_ev [] [] 1) (evp (askE_of str_nil str_nil (by omega) (by omega)) (evp h0 ?_)))⟩
      exact Ev.step (fun k => fringeref20_Grid.j0.eq_2 _ _ _ _ _ k) (evp rfl (Ev.now _))
    by_cases h1 : a2 > 32
    · refine ⟨([], 2), Ev.congr (fun k => fringeref20_Grid.f.eq_1 k _ _ _ _) (Ev.bind (asked_ev [] [] 1) (evp (askE_of str_nil str_nil (by omega) (by omega)) (evn h0 ?_)))⟩
      exact Ev.step (fun k => fringeref20_Grid.j0.eq_2 _ _ _ _ _ k) (evp (decide_eq_true h1) (Ev.now _))
    · obtain ⟨n, rfl⟩ := Int.eq_ofNat_of_zero_le (show 0 ≤ a2 by omega)
      exact ⟨_, rgrid_ev (st := 1) str_nil str_nil (by omega) (by omega) (by omega)⟩
  obtain ⟨g, g4⟩ := g4
  have g5 : Ev (fun k => fringeref20_Best.f k x y a2 a3) (0, 0, 0, 0, 0, askE x y a3) := by
    refine Ev.congr (fun k => fringeref20_Best.f.eq_1 k _ _ _ _) (Ev.bind g4 (Ev.bind (asked_ev x y a3) (evn h ?_)))
    refine Ev.step (fun k => fringeref20_Best.j0.eq_2 _ _ _ _ _ _ k) (evp rfl (Ev.bind (asked_ev x y a3) (evn h (Ev.bind (asked_ev x y a3) (Ev.now _)))))
  refine Ev.step (fun k => fringelaw20_SearchGrids.j0.eq_2 _ _ _ _ _ k) (evn (by decide) (Ev.bind g1 (Ev.bind g2 (Ev.bind g3 (Ev.bind g5 (Ev.bind (same32_ev (by simp)) (evp rfl (evp rfl (evp rfl ?_)))))))))
  simp only [beq_self_eq_true]
  exact Ev.now _
theorem grids_out {x y : List Int} {a2 a3 : Int} (h : askE x y a3 = 0) (ho : a2 < 0 ∨ a2 > 32) : Ev (fun k => fringelaw20_SearchGrids.j0 k x y a2 a3 false) true := by
  have e : (if a2 < 0 then true else decide (a2 > 32)) = true := by
    by_cases h0 : a2 < 0
    · rw [if_pos h0]
    · rw [if_neg h0, decide_eq_true_eq]; omega
  have r1 : Ev (fun k => search_Grid.j0 k x y a2 a3 true) ([], 2) := Ev.step (fun k => search_Grid.j0.eq_2 _ _ _ _ _ k) (evp rfl (Ev.now _))
  have r2 : ∀ x y a3, Ev (fun k => fringeref20_Grid.j0 k x y a2 a3 true) ([], 2) := fun x y a3 => Ev.step (fun k => fringeref20_Grid.j0.eq_2 _ _ _ _ _ k) (evp rfl (Ev.now _))
  have g1 : Ev (fun k => search_Grid.f k x y a2 a3) ([], 2) := by
    refine Ev.congr (fun k => search_Grid.f.eq_1 k _ _ _ _) ?_
    rw [search_check_eq]
    refine Ev.bind (Ev.now _) (evp h ?_)
    by_cases h0 : a2 < 0
    · exact evp h0 r1
    · refine evn h0 ?_
      rw [decide_eq_true (show a2 > 32 by omega)]
      exact r1
  have g2 : ∀ {x y : List Int} {a3 : Int}, askE x y a3 = 0 → Ev (fun k => fringeref20_Grid.f k x y a2 a3) ([], 2) := by
    intro x y a3 h
    refine Ev.congr (fun k => fringeref20_Grid.f.eq_1 k _ _ _ _) (Ev.bind (asked_ev x y a3) (evp h ?_))
    by_cases h0 : a2 < 0
    · exact evp h0 (r2 _ _ _)
    · refine evn h0 ?_
      rw [decide_eq_true (show a2 > 32 by omega)]
      exact r2 _ _ _
  have g3 : Ev (fun k => search_Best.f k x y a2 a3) (0, 0, 0, 0, 0, 2) :=
    Ev.congr (fun k => search_Best.f.eq_1 k _ _ _ _) (Ev.bind g1 (evn (by decide) (Ev.now _)))
  have g5 : Ev (fun k => fringeref20_Best.f k x y a2 a3) (0, 0, 0, 0, 0, 2) := by
    refine Ev.congr (fun k => fringeref20_Best.f.eq_1 k _ _ _ _) (Ev.bind (g2 (askE_of str_nil str_nil (by omega) (by omega))) (Ev.bind (asked_ev x y a3) (evp h ?_)))
    exact Ev.step (fun k => fringeref20_Best.j0.eq_2 _ _ _ _ _ _ k) (evp (by decide) (Ev.bind (asked_ev x y a3) (evp h (Ev.now _))))
  refine Ev.step (fun k => fringelaw20_SearchGrids.j0.eq_2 _ _ _ _ _ k) (evn (by decide) (Ev.bind g1 (Ev.bind (g2 h) (Ev.bind g3 (Ev.bind g5 (Ev.bind (same32_ev (by simp)) (evp rfl (evp rfl (evp rfl ?_)))))))))
  simp only [beq_self_eq_true]
  exact Ev.now _
theorem grids_j (x y : List Int) (a2 a3 : Int) (b : Bool) : Ev (fun k => fringelaw20_SearchGrids.j0 k x y a2 a3 b) true := by
  cases b with
  | true => exact Ev.step (fun k => fringelaw20_SearchGrids.j0.eq_2 _ _ _ _ _ k) (evp rfl (Ev.now _))
  | false =>
    by_cases h : askE x y a3 = 0
    · by_cases ho : a2 < 0 ∨ a2 > 32
      · exact grids_out h ho
      obtain ⟨hx, hy, h1, h2⟩ := askE_zero h
      obtain ⟨m, rfl⟩ := Int.eq_ofNat_of_zero_le (show 0 ≤ a2 by omega)
      obtain ⟨st, rfl⟩ := Int.eq_ofNat_of_zero_le (show 0 ≤ a3 by omega)
      refine Ev.step (fun k => fringelaw20_SearchGrids.j0.eq_2 _ _ _ _ _ k) (evn (by decide) (Ev.bind (grid_ev hx hy (by omega) (by omega) (by omega)) (Ev.bind (rgrid_ev hx hy (by omega) (by omega) (by omega)) (Ev.bind (best_ev hx hy (by omega) (by omega) (by omega)) (Ev.bind (rbest_ev hx hy (by omega) (by omega) (by omega)) (Ev.bind (same32_ev (by rw [gridL_length]; omega)) (evp rfl (evp rfl (evp (by simp) ?_)))))))))
      simp only [beq_self_eq_true]
      exact Ev.now _
    · exact grids_bad h
theorem SearchGrids : fringelaw20_SearchGrids.Pure := by
  intro x y a2 a3 _ _ _ _ _ _ _ _
  refine Ev.rounds (Ev.congr (fun k => fringelaw20_SearchGrids.f.eq_1 k _ _ _ _) ?_)
  have hl : ∀ l : List Int, fringeref13_Long.f l = some (decide ((l.length : Int) > 300)) := fun l => rfl
  rw [hl, hl]
  refine Ev.bind (Ev.now _) ?_
  by_cases h : decide ((x.length : Int) > 300) = true
  · exact evp h (grids_j _ _ _ _ _)
  · exact evn h (Ev.bind (Ev.now _) (grids_j _ _ _ _ _))
end Go.Proofs.Ytpooejjgaobcaaa.Pure
