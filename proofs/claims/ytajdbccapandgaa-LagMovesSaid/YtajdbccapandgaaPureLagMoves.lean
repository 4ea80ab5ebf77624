import Derived.Test.YtajdbccapandgaaLF
import Derived.Test.YtajdbccapandgaaPAllx26
set_option linter.unusedVariables false
set_option linter.unusedSectionVars false
namespace Go.Proofs.Ytajdbccapandgaa.Pure
open Go Go.RowKit Go.Proofs.Ytajdbccapandgaa.PAll Go.Proofs.YtajdbccapandgaaW.PrintWords Go.Proofs.YtajdbccapandgaaW.PrintLast SM LG

theorem moves_t (x y : List Int) (a2 a3 : Int) : Ev (fun k => fringelaw16_LagMoves.j0 k x y a2 a3 true true) true := Ev.step (fun k => fringelaw16_LagMoves.j0.eq_2 _ _ _ _ _ _ k) (evp rfl (Ev.now _))
theorem moved_str {y : List Int} (hy : str y) {n : Nat} (h : n + y.length ≤ 256) : str (List.replicate n 0 ++ y) := by
  refine ⟨by simp; omega, fun a ha => ?_⟩
  rw [List.mem_append] at ha
  rcases ha with ha | ha
  · rw [List.mem_replicate] at ha
    exact .inl ha.2
  · exact hy.2 a ha
theorem moved_pr (x y : List Int) (d : Int) (n k : Nat) : pr x (List.replicate n 0 ++ y) (d + n) k = pr x y d k := by
  unfold pr
  rw [List.length_append, List.length_replicate]
  by_cases h1 : 0 ≤ (k : Int) + d ∧ (k : Int) + d < y.length
  · rw [if_pos h1, if_pos (by omega)]
    have e : ((k : Int) + (d + n)).toNat = n + ((k : Int) + d).toNat := by omega
    rw [e]
    simp [List.getD_eq_getElem?_getD, List.getElem?_append_right]
  · rw [if_neg h1]
    by_cases h2 : 0 ≤ (k : Int) + (d + n) ∧ (k : Int) + (d + n) < ((n + y.length : Nat) : Int)
    · rw [if_pos h2]
      have e : ((k : Int) + (d + n)).toNat < n := by omega
      have : (List.replicate n (0 : Int) ++ y).getD ((k : Int) + (d + n)).toNat 0 = 0 := by
        simp only [List.getD_eq_getElem?_getD]
        rw [List.getElem?_append_left (by simpa using e)]
        simp [e]
      rw [this, Int.mul_zero]
    · rw [if_neg h2]
theorem moved_lag (x y : List Int) (d : Int) (n : Nat) : ∀ m, lagE x (List.replicate n 0 ++ y) (d + n) m = lagE x y d m := by
  intro m
  have h : tot x (List.replicate n 0 ++ y) (d + n) m = tot x y d m ∧ cnt x (List.replicate n 0 ++ y) (d + n) m = cnt x y d m := by
    induction m with
    | zero => exact ⟨rfl, rfl⟩
    | succ m ih =>
      rw [tot, tot, cnt, cnt, moved_pr, ih.1, ih.2]
      exact ⟨rfl, rfl⟩
  unfold lagE
  rw [h.1, h.2]
theorem moves_loop {x y : List Int} {n most : Nat} (hn : n ≤ 50) (hm : most ≤ 100) : ∀ (m i : Nat), i + m = 2 * most + 1 + n → 
    Ev (fun k => fringelaw16_LagMoves.l0 k n true (lagL x y most (2 * most + 1)) (lagL x (List.replicate n 0 ++ y) most (2 * most + 1)) i) true := by
  intro m
  induction m with
  | zero =>
    intro i hi
    refine Ev.step (fun k => fringelaw16_LagMoves.l0.eq_2 _ _ _ _ _ k) ?_
    rw [w64 (by omega) (by omega), lagL_length]
    exact evn (by omega) (Ev.now _)
  | succ m ih =>
    intro i hi
    have ih := ih (i + 1) (by omega)
    refine Ev.step (fun k => fringelaw16_LagMoves.l0.eq_2 _ _ _ _ _ k) ?_
    rw [w64 (x := (i : Int) + n) (by omega) (by omega), lagL_length, lagL_length, succ1 (by omega)]
    by_cases hlt : (i : Int) + n < ((2 * most + 1 : Nat) : Int)
    · have e1 := rdL _ _ _ (lagL_get x y most i (2 * most + 1) (by omega))
      have e2 := rdL _ _ _ (lagL_get x (List.replicate n 0 ++ y) most (i + n) (2 * most + 1) (by omega))
      rw [show (((i + n : Nat) : Int) - most) = ((i : Int) - most) + n by omega, moved_lag] at e2
      rw [show (i : Int) + n = ((i + n : Nat) : Int) from rfl, e1, e2]
      exact evp (by omega) (evp (by omega) (evp (by omega) (evp (by omega) (evn (by simp) ih))))
    · exact evn hlt (Ev.now _)
theorem LagMoves : fringelaw16_LagMoves.Pure := by
  intro x y a2 a3 _ _ _ _ _ _ _ _
  refine Ev.rounds (Ev.congr (fun k => fringelaw16_LagMoves.f.eq_1 k _ _ _ _) ?_)
  refine Ev.bind (g := fun k => fringelaw16_alive.f) (a := true) (Ev.now _) (fits (moves_t _ _ _ _) fun hx hy => ?_)
  by_cases c0 : (y.length : Int) > 100
  · exact evp c0 (moves_t _ _ _ _)
  refine evn c0 ?_
  by_cases c1 : a2 < 0
  · exact evp c1 (moves_t _ _ _ _)
  refine evn c1 ?_
  by_cases c2 : a2 > 50
  · exact evp c2 (moves_t _ _ _ _)
  refine evn c2 ?_
  by_cases c3 : a3 < 0
  · exact evp c3 (moves_t _ _ _ _)
  refine evn c3 ?_
  by_cases c4 : a3 > 100
  · exact evp c4 (moves_t _ _ _ _)
  refine evn c4 ?_
  obtain ⟨n, rfl⟩ := Int.eq_ofNat_of_zero_le (show 0 ≤ a2 by omega)
  obtain ⟨most, rfl⟩ := Int.eq_ofNat_of_zero_le (show 0 ≤ a3 by omega)
  have hz := moved_str hy (n := n) (by omega)
  have e : wrap64 (wrap64 (2 * (most : Int)) + 1) = ((2 * most + 1 : Nat) : Int) := by
    rw [w64 (x := 2 * (most : Int)) (by omega) (by omega), w64 (by omega) (by omega)]
    omega
  refine Ev.step (fun k => fringelaw16_LagMoves.j0.eq_2 _ _ _ _ _ _ k) (evn (by decide) (evp (by omega) (evp (by omega) (Ev.bind (Ev.now _) (evp (by simp; omega) ?_)))))
  rw [Int.toNat_natCast, e]
  refine Ev.bind (lag_ev hx hy (by omega)) (Ev.bind (lag_ev hx hz (by omega)) (evp rfl (evp rfl (evp (by rw [lagL_length]) ?_))))
  dsimp only
  rw [lagL_length]
  rw [show ((((2 * most + 1 : Nat) : Int)) != ((2 * most + 1 : Nat) : Int)) = false by simp]
  refine Ev.step (fun k => fringelaw16_LagMoves.j1.eq_2 _ _ _ _ _ k) (evn (by decide) ?_)
  exact moves_loop (by omega) (by omega) _ 0 (Nat.zero_add _)
end Go.Proofs.Ytajdbccapandgaa.Pure
