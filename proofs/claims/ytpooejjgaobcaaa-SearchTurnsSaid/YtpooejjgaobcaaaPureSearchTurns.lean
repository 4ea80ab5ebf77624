import Derived.Test.YtpooejjgaobcaaaSF
import Derived.Test.YtpooejjgaobcaaaPAllx36
import Derived.Test.YtpooejjgaobcaaaPAllx19
set_option linter.unusedVariables false
set_option linter.unusedSectionVars false
namespace Go.Proofs.Ytpooejjgaobcaaa.Pure
open Go Go.RowKit Go.Proofs.Ytpooejjgaobcaaa.PAll Go.Proofs.YtpooejjgaobcaaaW.PrintWords Go.Proofs.YtpooejjgaobcaaaW.PrintLast SM SL

theorem turns_t (x y : List Int) (a2 a3 a4 : Int) : Ev (fun k => fringelaw20_SearchTurns.j0 k x y a2 a3 a4 true true) true := Ev.step (fun k => fringelaw20_SearchTurns.j0.eq_2 _ _ _ _ _ _ _ k) (evp rfl (Ev.now _))
/-! the stream with its signs changed at odd times -/
def flip (x : List Int) (st : Nat) : Nat → List Int
  | 0 => []
  | i + 1 => flip x st i ++ [if i / st % 2 = 1 then -(x.getD i 0) else x.getD i 0]
theorem flip_length (x : List Int) (st : Nat) : ∀ n, (flip x st n).length = n
  | 0 => rfl
  | n + 1 => by rw [flip, List.length_append, flip_length x st n]; rfl
theorem flip_getD (x : List Int) (st i : Nat) : ∀ n, i < n → (flip x st n).getD i 0 = if i / st % 2 = 1 then -(x.getD i 0) else x.getD i 0
  | 0, h => by omega
  | n + 1, h => by
    rw [flip]
    by_cases hi : i < n
    · have := flip_getD x st i n hi
      rw [← this]
      simp only [List.getD_eq_getElem?_getD]
      rw [List.getElem?_append_left (by rw [flip_length]; exact hi)]
    · have e : i = n := by omega
      subst e
      simp only [List.getD_eq_getElem?_getD]
      rw [List.getElem?_append_right (by rw [flip_length]; omega), flip_length]
      simp
theorem okd_neg {a : Int} (h : okd a) : okd (-a) := by
  unfold okd at *
  omega
theorem flip_str {x : List Int} (hx : str x) (st : Nat) : ∀ n, n ≤ 256 → str (flip x st n)
  | 0, _ => str_nil
  | n + 1, h => by
    obtain ⟨_, h2⟩ := flip_str hx st n (by omega)
    refine ⟨by rw [flip_length]; exact h, fun a ha => ?_⟩
    rw [flip, List.mem_append] at ha
    rcases ha with ha | ha
    · exact h2 a ha
    · rw [List.mem_singleton] at ha
      subst ha
      split
      · exact okd_neg (str_get hx n)
      · exact str_get hx n
theorem flip_pr (x y : List Int) (d : Int) (st k : Nat) (h : k < x.length) : pr (flip x st x.length) y d k = if k / st % 2 = 1 then -(pr x y d k) else pr x y d k := by
  unfold pr
  rw [flip_getD x st k x.length h]
  split
  · split
    · rw [Int.neg_mul]
    · rfl
  · split <;> rfl
theorem flip_S (x y : List Int) (d : Int) (st t : Nat) : ∀ n, n ≤ x.length → S (flip x st x.length) y d st t n = if t % 2 = 1 then -(S x y d st t n) else S x y d st t n
  | 0, _ => by simp [S]
  | n + 1, h => by
    rw [S, S, flip_S x y d st t n (by omega), flip_pr x y d st n (by omega)]
    by_cases h4 : n / st % 4 = t
    · rw [if_pos h4, if_pos h4]
      have e : n / st % 2 = t % 2 := by omega
      rw [e]
      by_cases ht : t % 2 = 1
      · simp only [if_pos ht]; omega
      · simp only [if_neg ht]
    · rw [if_neg h4, if_neg h4, Int.add_zero, Int.add_zero]
section
variable {x y : List Int} {st : Nat} {d r : Int} (hx : str x) (hy : str y) (h1 : 1 ≤ st) (h2 : st ≤ 256) (hd : -32 ≤ d ∧ d ≤ 32) (hr : 0 ≤ r ∧ r ≤ 3)
include hx hy h1 h2 hd hr
omit hx hy h1 h2 hd in
theorem flip_V : V (Int.tmod (wrap64 (r + 2)) 4) (fun t => S x y d st t x.length) = V r (fun t => S (flip x st x.length) y d st t (flip x st x.length).length) := by
  have e : ∀ t, S (flip x st x.length) y d st t (flip x st x.length).length = if t % 2 = 1 then -(S x y d st t x.length) else S x y d st t x.length := fun t => by
    rw [flip_length]
    exact flip_S x y d st t x.length (Nat.le_refl _)
  simp only [e]
  have hr4 : (r = 0 ∨ r = 1) ∨ r = 2 ∨ r = 3 := by omega
  have m0 : Int.tmod (wrap64 (0 + 2)) 4 = 2 := by rw [w64 (by decide) (by decide)]; rfl
  have m1 : Int.tmod (wrap64 (1 + 2)) 4 = 3 := by rw [w64 (by decide) (by decide)]; rfl
  have m2 : Int.tmod (wrap64 (2 + 2)) 4 = 0 := by rw [w64 (by decide) (by decide)]; rfl
  have m3 : Int.tmod (wrap64 (3 + 2)) 4 = 1 := by rw [w64 (by decide) (by decide)]; rfl
  rcases hr4 with (rfl | rfl) | rfl | rfl
  · rw [m0]; simp [V]; try omega
  · rw [m1]; simp [V]; try omega
  · rw [m2]; simp [V]; try omega
  · rw [m3]; simp [V]; try omega
/-! the turned samples -/
def stopL (x : List Int) (st : Nat) (r : Int) : Nat → List S23
  | 0 => []
  | i + 1 => stopL x st r i ++ [⟨(Tz (-r * ((i / st : Nat) : Int)) (x.getD i 0) 0).1, (Tz (-r * ((i / st : Nat) : Int)) (x.getD i 0) 0).2⟩]
omit hx hy h1 h2 hd hr in
theorem stopL_length : ∀ n, (stopL x st r n).length = n
  | 0 => rfl
  | n + 1 => by rw [stopL, List.length_append, stopL_length n]; rfl
omit hx hy h1 h2 hd hr in
theorem stopL_get (i : Nat) : ∀ n, i < n → rd_T23 (stopL x st r n) (i : Int) = ⟨(Tz (-r * ((i / st : Nat) : Int)) (x.getD i 0) 0).1, (Tz (-r * ((i / st : Nat) : Int)) (x.getD i 0) 0).2⟩
  | 0, h => by omega
  | n + 1, h => by
    rw [stopL]
    by_cases hi : i < n
    · have := stopL_get i n hi
      rw [← this]
      simp only [rd_T23, Int.toNat_natCast, List.getD_eq_getElem?_getD]
      rw [List.getElem?_append_left (by rw [stopL_length]; exact hi)]
    · have e : i = n := by omega
      subst e
      simp only [rd_T23, Int.toNat_natCast, List.getD_eq_getElem?_getD]
      rw [List.getElem?_append_right (by rw [stopL_length]; omega), stopL_length]
      simp
omit hx hy h1 h2 hd in
theorem rate_w {q : Nat} (hq : q ≤ 4000000000) : wrap64 (wrap64 (-r) * (q : Int)) = -r * (q : Int) := by
  rw [w64 (x := -r) (by omega) (by omega)]
  have hr4 : (r = 0 ∨ r = 1) ∨ r = 2 ∨ r = 3 := by omega
  rcases hr4 with (rfl | rfl) | rfl | rfl <;> exact w64 (by omega) (by omega)
omit hy hd in
theorem stop_ev : Ev (fun k => search_Stop.f k x r st) (stopL x st r x.length, 0) := by
  have hl := hx.1
  refine Ev.congr (fun k => search_Stop.f.eq_1 k _ _ _) ?_
  rw [search_check_eq, askE_of hx str_nil (by omega) (by omega)]
  refine Ev.bind (Ev.now _) (evp rfl (evn (by omega) ?_))
  rw [decide_eq_false (by omega)]
  refine Ev.step (fun k => search_Stop.j0.eq_2 _ _ _ _ k) (evn (by decide) ?_)
  have key : ∀ (m i : Nat), i + m = x.length → Ev (fun k => search_Stop.l0 k r st (stopL x st r i) x (x.length : Int) i) (stopL x st r x.length, 0) := by
    intro m
    induction m with
    | zero =>
      intro i hi
      have : i = x.length := by omega
      subst this
      exact Ev.step (fun k => search_Stop.l0.eq_2 _ _ _ _ _ _ k) (evn (by omega) (Ev.now _))
    | succ m ih =>
      intro i hi
      have ih := ih (i + 1) (by omega)
      have hq := Nat.div_le_self i st
      have ho := str_get hx i
      unfold okd at ho
      refine Ev.step (fun k => search_Stop.l0.eq_2 _ _ _ _ _ _ k) (evp (by omega) (evp (by omega) (evp (by omega) (evn (by omega) ?_))))
      rw [divw (by omega), rate_w hr (by omega), rdD, succ1 (by omega)]
      refine Ev.bind (turned_ev _ (by omega) (by omega)) (evp (by rw [stopL_length]; omega) ?_)
      exact ih
  exact key x.length 0 (Nat.zero_add _)
omit hx hy h1 h2 hd hr in
theorem Tz_mul (q a b : Int) : (Tz q a 0).1 * b = (Tz q (a * b) 0).1 ∧ (Tz q a 0).2 * b = (Tz q (a * b) 0).2 := by
  unfold Tz
  split
  · simp
  · split
    · simp
    · split <;> simp [Int.neg_mul]
theorem sum_loop {p0 p1 p2 p3 p4 : Int} (e2 : p2 = (W x y d st r x.length).1) (e3 : p3 = (W x y d st r x.length).2) : ∀ (m i : Nat), i + m = x.length →
    Ev (fun k => fringelaw20_SearchTurns.l1 k x y d true (stopL x st r x.length) i p0 p1 p2 p3 p4 (W x y d st r i).1 (W x y d st r i).2) true := by
  intro m
  have hl := hx.1
  have hly := hy.1
  induction m with
  | zero =>
    intro i hi
    have : i = x.length := by omega
    subst this
    refine Ev.step (fun k => fringelaw20_SearchTurns.l1.eq_2 _ _ _ _ _ _ _ _ _ _ _ _ _ k) (evn (by omega) (evp rfl ?_))
    rw [e2, e3]
    simp only [beq_self_eq_true, Bool.and_self]
    exact Ev.now _
  | succ m ih =>
    intro i hi
    have ih := ih (i + 1) (by omega)
    have hb := pr_bound x y d hx hy i
    have e0 : wrap64 ((i : Int) + d) = (i : Int) + d := w64 (by omega) (by omega)
    have hW := W_eq x y d st r hr i
    have hs : ∀ t, -2304 ≤ S x y d st t i ∧ S x y d st t i ≤ 2304 := fun t => by
      have := S_bound x y d st hx hy t i
      omega
    have hV := V_bound hs r
    rw [← hW] at hV
    have hT := Tz_bound (B := 9) (a := pr x y d i) (b := 0) (-r * ((i / st : Nat) : Int)) hb (by omega)
    refine Ev.step (fun k => fringelaw20_SearchTurns.l1.eq_2 _ _ _ _ _ _ _ _ _ _ _ _ _ k) (evp (by omega) ?_)
    rw [e0, succ1 (by omega), stopL_get i x.length (by omega)]
    rw [W] at ih
    dsimp only at ih ⊢
    by_cases hc : 0 ≤ (i : Int) + d ∧ (i : Int) + d < y.length
    · have ep : pr x y d i = x.getD i 0 * y.getD ((i : Int) + d).toNat 0 := if_pos hc
      have er : rd y ((i : Int) + d) = y.getD ((i : Int) + d).toNat 0 := rfl
      obtain ⟨m1, m2⟩ := Tz_mul (-r * ((i / st : Nat) : Int)) (x.getD i 0) (y.getD ((i : Int) + d).toNat 0)
      rw [← ep] at m1 m2
      rw [er, m1, m2, w64 (x := (Tz _ _ _).1) (by omega) (by omega), w64 (x := (Tz _ _ _).2) (by omega) (by omega), w64 (x := (W x y d st r i).1 + _) (by omega) (by omega), w64 (x := (W x y d st r i).2 + _) (by omega) (by omega)]
      exact evp hc.1 (evp hc.2 (evp (by omega) (evp (by rw [stopL_length]; omega) (evp hc.1 ih))))
    · have ep : pr x y d i = 0 := if_neg hc
      have ez : Tz (-r * ((i / st : Nat) : Int)) 0 0 = (0, 0) := by unfold Tz; simp
      rw [ep, ez] at ih
      simp only [Int.add_zero] at ih
      by_cases hc1 : (i : Int) + d ≥ 0
      · exact evp hc1 (evn (by omega) ih)
      · exact evn hc1 ih
theorem turns_main : Ev (fun k => fringelaw20_SearchTurns.j0 k x y d r st true false) true := by
  have hl := hx.1
  refine Ev.step (fun k => fringelaw20_SearchTurns.j0.eq_2 _ _ _ _ _ _ _ k) (evn (by decide) ?_)
  have hz := flip_str hx st x.length hl
  have hV := flip_V (x := x) (y := y) (st := st) (d := d) hr
  have hW := W_eq x y d st r hr x.length
  have hr2 : 0 ≤ Int.tmod (wrap64 (r + 2)) 4 ∧ Int.tmod (wrap64 (r + 2)) 4 ≤ 3 := by
    rw [w64 (by omega) (by omega), Int.tmod_eq_emod_of_nonneg (by omega)]
    omega
  have key : ∀ (m i : Nat), i + m = x.length → Ev (fun k => fringelaw20_SearchTurns.l0 k x y d r st true (flip x st i) i) true := by
    intro m
    induction m with
    | zero =>
      intro i hi
      have : i = x.length := by omega
      subst this
      refine Ev.step (fun k => fringelaw20_SearchTurns.l0.eq_2 _ _ _ _ _ _ _ _ k) (evn (by omega) ?_)
      refine Ev.bind (at_ev hx hy h1 hd hr2 h2) (Ev.bind (at_ev hz hy h1 hd hr h2) (Ev.bind (at_ev hx hy h1 hd hr h2) (Ev.bind (stop_ev hx h1 h2 hr) (evp rfl (evp rfl (evp rfl (evp rfl ?_)))))))
      have e1 : (cellOf x y d st (Int.tmod (wrap64 (r + 2)) 4)).f2 = (cellOf (flip x st x.length) y d st r).f2 := by
        unfold cellOf
        rw [hV]
      have e2 : (cellOf x y d st (Int.tmod (wrap64 (r + 2)) 4)).f3 = (cellOf (flip x st x.length) y d st r).f3 := by
        unfold cellOf
        rw [hV]
      dsimp only
      rw [e1, e2]
      refine evn (by simp) (evp rfl ?_)
      rw [show (((stopL x st r x.length).length : Int) != (x.length : Int)) = false by rw [stopL_length]; simp]
      refine Ev.step (fun k => fringelaw20_SearchTurns.j2.eq_2 _ _ _ _ _ _ _ _ _ _ _ k) (evn (by decide) ?_)
      exact sum_loop hx hy h1 h2 hd hr (by rw [hW]; rfl) (by rw [hW]; rfl) x.length 0 (Nat.zero_add _)
    | succ m ih =>
      intro i hi
      have ih := ih (i + 1) (by omega)
      rw [flip] at ih
      have ho := str_get hx i
      unfold okd at ho
      refine Ev.step (fun k => fringelaw20_SearchTurns.l0.eq_2 _ _ _ _ _ _ _ _ k) (evp (by omega) (evn (by omega) ?_))
      rw [divw (by omega), rdD, succ1 (by omega), w64 (x := -(x.getD i 0)) (by omega) (by omega)]
      rw [show Int.tmod ((i / st : Nat) : Int) 2 = ((i / st % 2 : Nat) : Int) from tmodN (i / st) 2]
      by_cases ho : i / st % 2 = 1
      · rw [if_pos ho] at ih
        exact evp (by rw [ho]; rfl) (evp (by omega) (evp (by rw [flip_length]; omega) ih))
      · rw [if_neg ho] at ih
        exact evn (by omega) (evp (by omega) (evp (by rw [flip_length]; omega) ih))
  exact key x.length 0 (Nat.zero_add _)
end
theorem SearchTurns : fringelaw20_SearchTurns.Pure := by
  intro x y a2 a3 a4 _ _ _ _ _ _ _ _ _
  refine Ev.rounds (Ev.congr (fun k => fringelaw20_SearchTurns.f.eq_1 k _ _ _ _ _) ?_)
  obtain ⟨b, hb, hs⟩ := fit_ev x y a4
  refine Ev.bind (g := fun k => fringelaw20_alive.f) (a := true) (Ev.now _) (Ev.bind hb ?_)
  cases b with
  | false => exact evn (by decide) (turns_t _ _ _ _ _)
  | true =>
    obtain ⟨hx, hy, h1, h2⟩ := hs rfl
    refine evp rfl ?_
    by_cases c1 : a2 < -32
    · exact evp c1 (turns_t _ _ _ _ _)
    refine evn c1 ?_
    by_cases c2 : a2 > 32
    · exact evp c2 (turns_t _ _ _ _ _)
    refine evn c2 ?_
    by_cases c3 : a3 < 0
    · exact evp c3 (turns_t _ _ _ _ _)
    refine evn c3 ?_
    by_cases c4 : a3 > 3
    · exact evp c4 (turns_t _ _ _ _ _)
    refine evn c4 ?_
    obtain ⟨st, rfl⟩ := Int.eq_ofNat_of_zero_le (show 0 ≤ a4 by omega)
    exact turns_main hx hy (by omega) (by omega) (by omega) (by omega)
end Go.Proofs.Ytpooejjgaobcaaa.Pure
