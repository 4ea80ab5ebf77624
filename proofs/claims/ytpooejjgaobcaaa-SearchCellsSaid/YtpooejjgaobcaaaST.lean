/- Turned samples, cells and turns: the program's and the reference's, for every input. -/
import Derived.Test.YtpooejjgaobcaaaSLR
import Derived.Test.YtpooejjgaobcaaaPAllx19
import Derived.Test.YtpooejjgaobcaaaPAllx20
import Derived.Test.YtpooejjgaobcaaaPAllx21
import Derived.Test.YtpooejjgaobcaaaPAllx22
import Derived.Test.YtpooejjgaobcaaaPAllx5
import Derived.Test.YtpooejjgaobcaaaPAllx7
import Derived.Test.YtpooejjgaobcaaaPAllx13
import Derived.Test.YtpooejjgaobcaaaPAllx18
set_option linter.unusedVariables false
set_option linter.unusedSectionVars false
namespace Go.Proofs.Ytpooejjgaobcaaa.ST
open Go Go.RowKit Go.Proofs.Ytpooejjgaobcaaa.PAll Go.Proofs.YtpooejjgaobcaaaW.PrintWords Go.Proofs.YtpooejjgaobcaaaW.PrintLast SM SL

section
variable {x y : List Int} {st : Nat} {d r : Int} (hx : str x) (hy : str y) (h1 : 1 ≤ st) (h2 : st ≤ 256) (hd : -32 ≤ d ∧ d ≤ 32) (hr : 0 ≤ r ∧ r ≤ 3)
include hx hy h1 h2 hd hr
/-! the turned samples -/
def stopL (x : List Int) (st : Nat) (r : Int) : Nat → List S23
  | 0 => []
  | i + 1 => stopL x st r i ++ [⟨(Tz (-r * ((i / st : Nat) : Int)) (x.getD i 0) 0).1, (Tz (-r * ((i / st : Nat) : Int)) (x.getD i 0) 0).2⟩]
omit hx hy h1 h2 hd hr in
theorem stopL_length : ∀ n, (stopL x st r n).length = n
  | 0 => rfl
  | n + 1 => by rw [stopL, List.length_append, stopL_length n]; rfl
omit hx hy h1 h2 hd hr in
theorem stopL_get (i : Nat) : ∀ n, i < n → rd_T23 (stopL x st r n) (i : Int) = ⟨(Tz (-r * ((i / st : Nat) : Int)) (x.getD i 0) 0).1, (Tz (-r * ((i / st : Nat) : Int)) (x.getD i 0) 0).2⟩
  | 0, h => by omega
  | n + 1, h => by
    rw [stopL]
    by_cases hi : i < n
    · have := stopL_get i n hi
      rw [← this]
      simp only [rd_T23, Int.toNat_natCast, List.getD_eq_getElem?_getD]
      rw [List.getElem?_append_left (by rw [stopL_length]; exact hi)]
    · have e : i = n := by omega
      subst e
      simp only [rd_T23, Int.toNat_natCast, List.getD_eq_getElem?_getD]
      rw [List.getElem?_append_right (by rw [stopL_length]; omega), stopL_length]
      simp
omit hx hy h1 h2 hd in
theorem rate_w {q : Nat} (hq : q ≤ 4000000000) : wrap64 (wrap64 (-r) * (q : Int)) = -r * (q : Int) := by
  rw [w64 (x := -r) (by omega) (by omega)]
  have hr4 : (r = 0 ∨ r = 1) ∨ r = 2 ∨ r = 3 := by omega
  rcases hr4 with (rfl | rfl) | rfl | rfl <;> exact w64 (by omega) (by omega)
omit hy hd in
theorem stop_ev : Ev (fun k => search_Stop.f k x r st) (stopL x st r x.length, 0) := by
  have hl := hx.1
  refine Ev.congr (fun k => search_Stop.f.eq_1 k _ _ _) ?_
  rw [search_check_eq, askE_of hx str_nil (by omega) (by omega)]
  refine Ev.bind (Ev.now _) (evp rfl (evn (by omega) ?_))
  rw [decide_eq_false (by omega)]
  refine Ev.step (fun k => search_Stop.j0.eq_2 _ _ _ _ k) (evn (by decide) ?_)
  have key : ∀ (m i : Nat), i + m = x.length → Ev (fun k => search_Stop.l0 k r st (stopL x st r i) x (x.length : Int) i) (stopL x st r x.length, 0) := by
    intro m
    induction m with
    | zero =>
      intro i hi
      have : i = x.length := by omega
      subst this
      exact Ev.step (fun k => search_Stop.l0.eq_2 _ _ _ _ _ _ k) (evn (by omega) (Ev.now _))
    | succ m ih =>
      intro i hi
      have ih := ih (i + 1) (by omega)
      have hq := Nat.div_le_self i st
      have ho := str_get hx i
      unfold okd at ho
      refine Ev.step (fun k => search_Stop.l0.eq_2 _ _ _ _ _ _ k) (evp (by omega) (evp (by omega) (evp (by omega) (evn (by omega) ?_))))
      rw [divw (by omega), rate_w hr (by omega), rdD, succ1 (by omega)]
      refine Ev.bind (turned_ev _ (by omega) (by omega)) (evp (by rw [stopL_length]; omega) ?_)
      exact ih
  exact key x.length 0 (Nat.zero_add _)
omit hy hd in
theorem rstop_ev : Ev (fun k => fringeref20_Stop.f k x r st) (stopL x st r x.length, 0) := by
  have hl := hx.1
  refine Ev.congr (fun k => fringeref20_Stop.f.eq_1 k _ _ _) (Ev.bind (asked_ev x [] st) ?_)
  rw [askE_of hx str_nil (by omega) (by omega)]
  refine evp rfl (evn (by omega) ?_)
  rw [decide_eq_false (by omega)]
  refine Ev.step (fun k => fringeref20_Stop.j0.eq_2 _ _ _ _ k) (evn (by decide) ?_)
  have key : ∀ (m i : Nat), i + m = x.length → Ev (fun k => fringeref20_Stop.l0 k x r st (stopL x st r i) i) (stopL x st r x.length, 0) := by
    intro m
    induction m with
    | zero =>
      intro i hi
      have : i = x.length := by omega
      subst this
      exact Ev.step (fun k => fringeref20_Stop.l0.eq_2 _ _ _ _ _ k) (evn (by omega) (Ev.now _))
    | succ m ih =>
      intro i hi
      have ih := ih (i + 1) (by omega)
      have hq := Nat.div_le_self i st
      have ho := str_get hx i
      unfold okd at ho
      refine Ev.step (fun k => fringeref20_Stop.l0.eq_2 _ _ _ _ _ k) (evp (by omega) (evp (by omega) (evn (by omega) ?_)))
      rw [divw (by omega), rate_w hr (by omega), rdD, succ1 (by omega), Turned_eq _ (by omega) (by omega)]
      refine Ev.bind (Ev.now _) (evp (by rw [stopL_length]; omega) ?_)
      exact ih
  exact key x.length 0 (Nat.zero_add _)
end
theorem turn_all (a b q : Int) : ∃ r, Ev (fun k => search_Turn.f k a b q) r ∧ fringeref20_Turn.f a b q = some r := by
  have hc : ∀ k, search_Turn.f k a b q = _ := fun k => search_Turn.f.eq_1 k _ _ _
  rw [fringeref20_Turn.f.eq_1]
  by_cases c1 : a < -1000000000
  · exact ⟨_, Ev.congr hc (evp c1 (Ev.now _)), if_pos c1⟩
  by_cases c2 : a > 1000000000
  · exact ⟨_, Ev.congr hc (evn c1 (evp c2 (Ev.now _))), by rw [if_neg c1, if_pos c2]⟩
  by_cases c3 : b < -1000000000
  · exact ⟨_, Ev.congr hc (evn c1 (evn c2 (evp c3 (Ev.now _)))), by rw [if_neg c1, if_neg c2, if_pos c3]⟩
  by_cases c4 : b > 1000000000
  · exact ⟨_, Ev.congr hc (evn c1 (evn c2 (evn c3 (evp c4 (Ev.now _))))), by rw [if_neg c1, if_neg c2, if_neg c3, if_pos c4]⟩
  exact ⟨_, Ev.congr hc (evn c1 (evn c2 (evn c3 (evn c4 (Ev.bind (turned_ev q (by omega) (by omega)) (Ev.now _)))))), by rw [if_neg c1, if_neg c2, if_neg c3, if_neg c4, Turned_eq q (by omega) (by omega)]; rfl⟩
theorem turn_ok {a b : Int} (q : Int) (ha : -1000000000 ≤ a ∧ a ≤ 1000000000) (hb : -1000000000 ≤ b ∧ b ≤ 1000000000) : Ev (fun k => search_Turn.f k a b q) ((Tz q a b).1, (Tz q a b).2, 0) :=
  Ev.congr (fun k => search_Turn.f.eq_1 k _ _ _) (evn (by omega) (evn (by omega) (evn (by omega) (evn (by omega) (Ev.bind (turned_ev q (by omega) (by omega)) (Ev.now _))))))
theorem turn_out {a b : Int} (q : Int) (h : ¬ ((-1000000000 ≤ a ∧ a ≤ 1000000000) ∧ -1000000000 ≤ b ∧ b ≤ 1000000000)) : Ev (fun k => search_Turn.f k a b q) (0, 0, 16) := by
  refine Ev.congr (fun k => search_Turn.f.eq_1 k _ _ _) ?_
  by_cases c1 : a < -1000000000
  · exact evp c1 (Ev.now _)
  by_cases c2 : a > 1000000000
  · exact evn c1 (evp c2 (Ev.now _))
  by_cases c3 : b < -1000000000
  · exact evn c1 (evn c2 (evp c3 (Ev.now _)))
  exact evn c1 (evn c2 (evn c3 (evp (by omega) (Ev.now _))))
theorem at_all (x y : List Int) (d r s : Int) : ∃ res, Ev (fun k => search_At.f k x y d r s) res ∧ Ev (fun k => fringeref20_At.f k x y d r s) res := by
  have h1 : ∀ k, search_At.f k x y d r s = _ := fun k => search_At.f.eq_1 k _ _ _ _ _
  have h2 : ∀ k, fringeref20_At.f k x y d r s = _ := fun k => fringeref20_At.f.eq_1 k _ _ _ _ _
  have k1 : ∀ {g : Int → Nat → Option (Int × Int × Int × Int × Int × Int)} {res}, Ev (g (askE x y s)) res → Ev (fun k => (search_check.f x y s).bind fun t => g t k) res := fun h => by rw [search_check_eq]; exact Ev.bind (Ev.now _) h
  by_cases c0 : askE x y s = 0
  · obtain ⟨hx, hy, e1, e2⟩ := askE_zero c0
    obtain ⟨st, rfl⟩ := Int.eq_ofNat_of_zero_le (show 0 ≤ s by omega)
    by_cases c1 : d < -32
    · exact ⟨_, Ev.congr h1 (k1 (evp c0 (evp c1 (Ev.now _)))), Ev.congr h2 (Ev.bind (asked_ev x y st) (evp c0 (evp c1 (Ev.now _))))⟩
    by_cases c2 : d > 32
    · exact ⟨_, Ev.congr h1 (k1 (evp c0 (evn c1 (evp c2 (Ev.now _))))), Ev.congr h2 (Ev.bind (asked_ev x y st) (evp c0 (evn c1 (evp c2 (Ev.now _)))))⟩
    by_cases c3 : r < 0
    · exact ⟨_, Ev.congr h1 (k1 (evp c0 (evn c1 (evn c2 (evp c3 (Ev.now _)))))), Ev.congr h2 (Ev.bind (asked_ev x y st) (evp c0 (evn c1 (evn c2 (evp c3 (Ev.now _))))))⟩
    by_cases c4 : r > 3
    · exact ⟨_, Ev.congr h1 (k1 (evp c0 (evn c1 (evn c2 (evn c3 (evp c4 (Ev.now _))))))), Ev.congr h2 (Ev.bind (asked_ev x y st) (evp c0 (evn c1 (evn c2 (evn c3 (evp c4 (Ev.now _)))))))⟩
    exact ⟨_, Ev.congr h1 (k1 (evp c0 (evn c1 (evn c2 (evn c3 (evn c4 (Ev.bind (cell_ev hx hy (d := d) (r := r) (by omega) (by omega) (by omega)) (Ev.now _)))))))),
      Ev.congr h2 (Ev.bind (asked_ev x y st) (evp c0 (evn c1 (evn c2 (evn c3 (evn c4 (Ev.bind (found_ev hx hy (d := d) (r := r) (by omega) (by omega) (by omega)) (Ev.now _))))))))⟩
  · exact ⟨_, Ev.congr h1 (k1 (evn c0 (Ev.now _))), Ev.congr h2 (Ev.bind (asked_ev x y s) (evn c0 (Ev.bind (asked_ev x y s) (Ev.now _))))⟩
theorem stop_all (x : List Int) (r s : Int) : ∃ l e, Ev (fun k => search_Stop.f k x r s) (l, e) ∧ Ev (fun k => fringeref20_Stop.f k x r s) (l, e) ∧ l.length ≤ 1000 := by
  have h1 : ∀ k, search_Stop.f k x r s = _ := fun k => search_Stop.f.eq_1 k _ _ _
  have h2 : ∀ k, fringeref20_Stop.f k x r s = _ := fun k => fringeref20_Stop.f.eq_1 k _ _ _
  have k1 : ∀ {g : Int → Nat → Option (List S23 × Int)} {res}, Ev (g (askE x [] s)) res → Ev (fun k => (search_check.f x [] s).bind fun t => g t k) res := fun h => by rw [search_check_eq]; exact Ev.bind (Ev.now _) h
  have j1 : Ev (fun k => search_Stop.j0 k x r s true) ([], 2) := Ev.step (fun k => search_Stop.j0.eq_2 _ _ _ _ k) (evp rfl (Ev.now _))
  have j2 : Ev (fun k => fringeref20_Stop.j0 k x r s true) ([], 2) := Ev.step (fun k => fringeref20_Stop.j0.eq_2 _ _ _ _ k) (evp rfl (Ev.now _))
  by_cases c0 : askE x [] s = 0
  · obtain ⟨hx, _, e1, e2⟩ := askE_zero c0
    obtain ⟨st, rfl⟩ := Int.eq_ofNat_of_zero_le (show 0 ≤ s by omega)
    by_cases c3 : r < 0
    · exact ⟨_, _, Ev.congr h1 (k1 (evp c0 (evp c3 j1))), Ev.congr h2 (Ev.bind (asked_ev x [] st) (evp c0 (evp c3 j2))), by simp⟩
    by_cases c4 : r > 3
    · refine ⟨[], 2, Ev.congr h1 (k1 (evp c0 (evn c3 ?_))), Ev.congr h2 (Ev.bind (asked_ev x [] st) (evp c0 (evn c3 ?_))), ?_⟩
      · rw [decide_eq_true c4]; exact j1
      · rw [decide_eq_true c4]; exact j2
      · simp
    have hl := hx.1
    exact ⟨_, _, stop_ev hx (by omega) (by omega) (by omega), rstop_ev hx (by omega) (by omega) (by omega), by rw [stopL_length]; omega⟩
  · exact ⟨_, _, Ev.congr h1 (k1 (evn c0 (Ev.now _))), Ev.congr h2 (Ev.bind (asked_ev x [] s) (evn c0 (Ev.bind (asked_ev x [] s) (Ev.now _)))), by simp⟩
theorem sameG_loop (l : List S23) (hl : l.length ≤ 1000) : ∀ (m i : Nat), i + m = l.length → Ev (fun k => fringeref20_SameGauss.l0 k l l i) true := by
  intro m
  induction m with
  | zero =>
    intro i hi
    exact Ev.step (fun k => fringeref20_SameGauss.l0.eq_2 _ _ _ k) (evn (by omega) (Ev.now _))
  | succ m ih =>
    intro i hi
    refine Ev.step (fun k => fringeref20_SameGauss.l0.eq_2 _ _ _ k) (evp (by omega) (evp (by omega) (evp (by omega) (evn (by simp) ?_))))
    rw [succ1 (by omega)]
    exact ih (i + 1) (by omega)
theorem sameG_ev {l : List S23} (h : l.length ≤ 1000) : Ev (fun k => fringeref20_SameGauss.f k l l) true :=
  Ev.congr (fun k => fringeref20_SameGauss.f.eq_1 k _ _) (evp rfl (sameG_loop l h l.length 0 (Nat.zero_add _)))
theorem same13_loop (l : List Int) (hl : l.length ≤ 1000) : ∀ (m i : Nat), i + m = l.length → Ev (fun k => fringeref13_Same.l0 k l l i) true := by
  intro m
  induction m with
  | zero =>
    intro i hi
    exact Ev.step (fun k => fringeref13_Same.l0.eq_2 _ _ _ k) (evn (by omega) (Ev.now _))
  | succ m ih =>
    intro i hi
    refine Ev.step (fun k => fringeref13_Same.l0.eq_2 _ _ _ k) (evp (by omega) (evp (by omega) (evp (by omega) (evp rfl ?_))))
    rw [succ1 (by omega)]
    exact ih (i + 1) (by omega)
theorem same13_ev {l : List Int} (h : l.length ≤ 1000) : Ev (fun k => fringeref13_Same.f k l l) true :=
  Ev.congr (fun k => fringeref13_Same.f.eq_1 k _ _) (evp rfl (same13_loop l h l.length 0 (Nat.zero_add _)))
end Go.Proofs.Ytpooejjgaobcaaa.ST
