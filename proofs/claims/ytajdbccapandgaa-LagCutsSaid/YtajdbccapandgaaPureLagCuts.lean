/- The lags of a stream and one that is cut are those of both parts, added up, for every input. -/
import Derived.Test.YtajdbccapandgaaMLag
import Derived.Test.YtajdbccapandgaaPAllx33
import Derived.Test.YtajdbccapandgaaPAllx31
set_option linter.unusedVariables false
namespace Go.Proofs.Ytajdbccapandgaa.Pure
open Go Go.RowKit Go.Proofs.Ytajdbccapandgaa.PAll Go.Proofs.YtajdbccapandgaaW.PrintWords Go.Proofs.YtajdbccapandgaaW.PrintLast SM Go.Proofs.Ytajdbccapandgaa.LG Go.Proofs.Ytajdbccapandgaa.LA

theorem cut_pr {x y : List Int} {n : Nat} (h : n ≤ x.length) (d : Int) (k : Nat) : pr (cutA x n) y d k = (if k < n then pr x y d k else 0) ∧ pr (cutB x n) y d k = (if k < n then 0 else pr x y d k) := by
  unfold pr
  rw [cutA_get h, cutB_get h]
  constructor
  · split <;> split <;> simp
  · split <;> split <;> simp
theorem cut_tot {x y : List Int} {n : Nat} (h : n ≤ x.length) (d : Int) : ∀ m, tot (cutA x n) y d m + tot (cutB x n) y d m = tot x y d m
  | 0 => rfl
  | m + 1 => by
    have ih := cut_tot (y := y) h d m
    rw [tot, tot, tot, (cut_pr h d m).1, (cut_pr h d m).2]
    split <;> omega
theorem cut_cnt {x y : List Int} {n : Nat} (h : n ≤ x.length) (d : Int) : ∀ m, cnt (cutA x n) y d m + cnt (cutB x n) y d m = cnt x y d m
  | 0 => rfl
  | m + 1 => by
    have ih := cut_cnt (y := y) h d m
    rw [cnt, cnt, cnt, (cut_pr h d m).1, (cut_pr h d m).2]
    by_cases c : m < n
    · rw [if_pos c, if_pos c, if_pos rfl]; omega
    · rw [if_neg c, if_neg c, if_pos rfl]; omega
theorem cut_str {x : List Int} (hx : str x) {n : Nat} (h : n ≤ x.length) : str (cutA x n) ∧ str (cutB x n) := by
  refine ⟨⟨by rw [cutA_length h]; exact hx.1, fun a ha => ?_⟩, ⟨by rw [cutB_length h]; exact hx.1, fun a ha => ?_⟩⟩
  · rcases List.mem_append.1 ha with ha | ha
    · exact hx.2 a (List.mem_of_mem_take ha)
    · rw [List.eq_of_mem_replicate ha]; exact .inl rfl
  · rcases List.mem_append.1 ha with ha | ha
    · rw [List.eq_of_mem_replicate ha]; exact .inl rfl
    · exact hx.2 a (List.mem_of_mem_drop ha)
theorem cut_add {x y : List Int} (hx : str x) (hy : str y) {n : Nat} (h : n ≤ x.length) (most : Nat) (hm : most ≤ 255) :
    Ev (fun k => lag_Add.f k (lagL (cutA x n) y most (2 * most + 1)) (lagL (cutB x n) y most (2 * most + 1))) (lagL x y most (2 * most + 1), 0) := by
  obtain ⟨sa, sb⟩ := cut_str hx h
  have hl := hx.1
  have ca := Check_ok (lagL_ok sa hy most (2 * most + 1)) (by rw [lagL_length]; omega) (by rw [lagL_length]; omega)
  have cb := Check_ok (lagL_ok sb hy most (2 * most + 1)) (by rw [lagL_length]; omega) (by rw [lagL_length]; omega)
  refine Ev.congr (fun k => lag_Add.f.eq_1 k _ _) ?_
  rw [ca, cb]
  refine Ev.bind (Ev.now _) (evp rfl (Ev.bind (Ev.now _) (evp rfl (evp (by rw [lagL_length, lagL_length]) ?_))))
  have key : ∀ (m i : Nat), i + m = 2 * most + 1 → Ev (fun k => lag_Add.l0 k (lagL (cutB x n) y most (2 * most + 1)) (lagL x y most i) (lagL (cutA x n) y most (2 * most + 1)) ((2 * most + 1 : Nat) : Int) i) (lagL x y most (2 * most + 1), 0) := by
    intro m
    induction m with
    | zero =>
      intro i hi
      have : i = 2 * most + 1 := by omega
      subst this
      exact Ev.step (fun k => lag_Add.l0.eq_2 _ _ _ _ _ k) (evn (by omega) (Ev.now _))
    | succ m ih =>
      intro i hi
      have ih := ih (i + 1) (by omega)
      have hi1 : i < 2 * most + 1 := by omega
      refine Ev.step (fun k => lag_Add.l0.eq_2 _ _ _ _ _ k) (evp (by omega) (evp (by omega) (evp (by rw [lagL_length]; omega) (evp (by rw [lagL_length]; omega) ?_))))
      rw [rdL _ _ _ (lagL_get (cutA x n) y most i _ hi1), rdL _ _ _ (lagL_get (cutB x n) y most i _ hi1), succ1 (by omega), cutA_length h, cutB_length h]
      have b1 := tot_bound (cutA x n) y ((i : Int) - most) sa hy x.length
      have b2 := tot_bound (cutB x n) y ((i : Int) - most) sb hy x.length
      have b3 := cnt_bound (cutA x n) y ((i : Int) - most) x.length
      have b4 := cnt_bound (cutB x n) y ((i : Int) - most) x.length
      have b5 := cnt_bound (x) y ((i : Int) - most) x.length
      have e1 := cut_tot (y := y) h ((i : Int) - most) x.length
      have e2 := cut_cnt (y := y) h ((i : Int) - most) x.length
      unfold lagE
      dsimp only
      rw [w64 (x := tot (cutA x n) y ((i : Int) - most) x.length + tot (cutB x n) y ((i : Int) - most) x.length) (by omega) (by omega), w64 (x := cnt (cutA x n) y ((i : Int) - most) x.length + cnt (cutB x n) y ((i : Int) - most) x.length) (by omega) (by omega), e1, e2]
      exact evn (by omega) (evp (by rw [lagL_length]; omega) ih)
  have := key (2 * most + 1) 0 (Nat.zero_add _)
  rw [lagL_length]
  exact this
theorem LagCuts : fringelaw16_LagCuts.Pure := by
  intro x y a m _ _ _ _ _ _ _ _
  refine Ev.rounds (Ev.congr (fun k => fringelaw16_LagCuts.f.eq_1 k _ _ _ _) ?_)
  have jt : Ev (fun k => fringelaw16_LagCuts.j0 k x y a m true true) true := Ev.step (fun k => fringelaw16_LagCuts.j0.eq_2 _ _ _ _ _ _ k) (evp rfl (Ev.now _))
  refine Ev.bind (g := fun k => fringelaw16_alive.f) (a := true) (Ev.now _) (fits jt fun hx hy => ?_)
  by_cases c1 : a < 0
  · exact evp c1 jt
  by_cases c2 : a > x.length
  · exact evn c1 (evp c2 jt)
  by_cases c3 : m < 0
  · exact evn c1 (evn c2 (evp c3 jt))
  by_cases c4 : m > 255
  · exact evn c1 (evn c2 (evn c3 (evp c4 jt)))
  obtain ⟨n, rfl⟩ := Int.eq_ofNat_of_zero_le (show 0 ≤ a by omega)
  obtain ⟨most, rfl⟩ := Int.eq_ofNat_of_zero_le (show 0 ≤ m by omega)
  have h : n ≤ x.length := by omega
  obtain ⟨sa, sb⟩ := cut_str hx h
  refine evn c1 (evn c2 (evn c3 (evn c4 (Ev.step (fun k => fringelaw16_LagCuts.j0.eq_2 _ _ _ _ _ _ k) (evn (by decide) ?_)))))
  rw [cut_ev hx h]
  refine Ev.bind (Ev.now _) (Ev.bind (lag_ev sa hy (by omega)) (Ev.bind (lag_ev sb hy (by omega)) (Ev.bind (lag_ev hx hy (by omega)) (Ev.bind (cut_add hx hy h most (by omega)) (evp rfl (evp rfl (evp rfl (evp rfl (evp rfl (evp rfl (evp ?_ (evp ?_ (Ev.bind (sameL_ev ?_) (Ev.now _))))))))))))))
  · dsimp only; rw [cutA_length h]
  · dsimp only; rw [cutB_length h]
  · rw [lagL_length]; omega
end Go.Proofs.Ytajdbccapandgaa.Pure
