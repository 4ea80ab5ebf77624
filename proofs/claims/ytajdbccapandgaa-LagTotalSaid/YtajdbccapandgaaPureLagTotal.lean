import Derived.Test.YtajdbccapandgaaLT
import Derived.Test.YtajdbccapandgaaLF
import Derived.Test.YtajdbccapandgaaPAllx25
import Derived.Test.YtajdbccapandgaaPAllx17
import Derived.Test.YtajdbccapandgaaPAllx16
import Derived.Test.YtajdbccapandgaaPAllx24
set_option linter.unusedVariables false
set_option linter.unusedSectionVars false
namespace Go.Proofs.Ytajdbccapandgaa.Pure
open Go Go.RowKit Go.Proofs.Ytajdbccapandgaa.PAll Go.Proofs.YtajdbccapandgaaW.PrintWords Go.Proofs.YtajdbccapandgaaW.PrintLast SM LG

def okE (e : LG.SL) : Prop := 0 ≤ e.f1 ∧ e.f1 ≤ 256 ∧ -9 * e.f1 ≤ e.f0 ∧ e.f0 ≤ 9 * e.f1 ∧ (e.f0 - e.f1) % 2 = 0
theorem lagE_ok {x y : List Int} (hx : str x) (hy : str y) (d : Int) : okE (lagE x y d x.length) := by
  have h1 := lag_ok hx hy d x.length
  have h2 := cnt_bound x y d x.length
  have h3 := hx.1
  unfold okE lagE
  dsimp only
  omega
theorem tmod2 (a : Int) : Int.tmod a 2 = 0 ↔ a % 2 = 0 := by
  have h1 := Int.mul_tdiv_add_tmod a 2
  have h2 := Int.tmod_lt_of_pos a (show (0 : Int) < 2 by decide)
  have h3 := Int.tmod_lt_of_pos (-a) (show (0 : Int) < 2 by decide)
  rw [Int.neg_tmod] at h3
  omega
theorem bad_ok {e : LG.SL} (h : okE e) : lag_bad e = false := by
  unfold okE at h
  unfold lag_bad lag_Check_1.f
  rw [w64 (x := 9 * e.f1) (by omega) (by omega), w64 (x := (-9) * e.f1) (by omega) (by omega), w64 (x := e.f0 - e.f1) (by omega) (by omega)]
  rw [if_neg (by omega), if_neg (by omega), if_neg (by omega), if_neg (by omega)]
  have : Int.tmod (e.f0 - e.f1) 2 = 0 := (tmod2 _).2 h.2.2.2.2
  simp [this]
theorem Check_ok {l : List LG.SL} (h : ∀ e ∈ l, okE e) (h1 : l.length % 2 = 1) (h2 : l.length ≤ 511) : lag_Check.f l = some 0 := by
  unfold lag_Check.f
  rw [if_neg (by omega), if_neg (by omega)]
  have : l.any lag_bad = false := by
    rw [List.any_eq_false]
    intro e he
    rw [bad_ok (h e he)]
    decide
  rw [this]
  rfl
theorem rCheck_loop {l : List LG.SL} (h : ∀ e ∈ l, okE e) (h2 : l.length ≤ 511) : ∀ (m i : Nat), i + m = l.length → Ev (fun k => fringeref16_Check.l0 k l i) 0 := by
  intro m
  induction m with
  | zero =>
    intro i hi
    exact Ev.step (fun k => fringeref16_Check.l0.eq_2 _ _ k) (evn (by omega) (Ev.now _))
  | succ m ih =>
    intro i hi
    have ih := ih (i + 1) (by omega)
    have hlt : i < l.length := by omega
    have he := rdL l i l[i] (List.getElem?_eq_getElem hlt)
    have ho := h _ (List.getElem_mem hlt)
    refine Ev.step (fun k => fringeref16_Check.l0.eq_2 _ _ k) ?_
    rw [he, succ1 (by omega)]
    generalize l[i] = e at *
    unfold okE at ho
    rw [w64 (x := 9 * e.f1) (by omega) (by omega), w64 (x := (-9) * e.f1) (by omega) (by omega)]
    refine evp (by omega) (evp (by omega) (evn (by omega) (evn (by omega) (evn (by omega) (evn (by omega) (Ev.bind (Ev.now _) (Ev.bind (Ev.now _) (evn ?_ ih))))))))
    have hp : (Int.tmod e.f0 2 == 0) = (Int.tmod e.f1 2 == 0) := by
      rw [Bool.eq_iff_iff, beq_iff_eq, beq_iff_eq, tmod2, tmod2]
      omega
    rw [hp]
    simp
theorem rCheck_ok {l : List LG.SL} (h : ∀ e ∈ l, okE e) (h1 : l.length % 2 = 1) (h2 : l.length ≤ 511) : Ev (fun k => fringeref16_Check.f k l) 0 := by
  refine Ev.congr (fun k => fringeref16_Check.f.eq_1 k _) (evn (by omega) (Ev.bind (Ev.now _) (evn ?_ (rCheck_loop h h2 l.length 0 (Nat.zero_add _)))))
  rw [beq_iff_eq, tmod2]
  omega
theorem lagL_ok {x y : List Int} (hx : str x) (hy : str y) (most : Nat) : ∀ n, ∀ e ∈ lagL x y most n, okE e
  | 0, e, h => by simp [lagL] at h
  | n + 1, e, h => by
    rw [lagL, List.mem_append] at h
    rcases h with h | h
    · exact lagL_ok hx hy most n e h
    · rw [List.mem_singleton] at h
      subst h
      exact lagE_ok hx hy _
theorem sum_bound {f : Nat → Int} (h : ∀ j, -2304 ≤ f j ∧ f j ≤ 2304) : ∀ J : Nat, -2304 * (J : Int) ≤ sumJ f J ∧ sumJ f J ≤ 2304 * (J : Int)
  | 0 => by simp [sumJ]
  | J + 1 => by
    have := sum_bound h J
    have := h J
    rw [sumJ]
    omega
theorem total_loop {x y : List Int} (hx : str x) (hy : str y) {M : Nat} (hM : M ≤ 255) : ∀ (m i : Nat), i + m = 2 * M + 1 →
    Ev (fun k => lag_Total.l0 k (lagL x y M (2 * M + 1)) ((2 * M + 1 : Nat) : Int) i (sumJ (fun j => tot x y ((j : Int) - M) x.length) i) (sumJ (fun j => cnt x y ((j : Int) - M) x.length) i))
      (sumJ (fun j => tot x y ((j : Int) - M) x.length) (2 * M + 1), sumJ (fun j => cnt x y ((j : Int) - M) x.length) (2 * M + 1), 0) := by
  intro m
  have hl := hx.1
  have b1 := sum_bound (f := fun j => tot x y ((j : Int) - M) x.length) (fun j => by have := tot_bound x y ((j : Int) - M) hx hy x.length; omega)
  have b2 := sum_bound (f := fun j => cnt x y ((j : Int) - M) x.length) (fun j => by have := cnt_bound x y ((j : Int) - M) x.length; omega)
  induction m with
  | zero =>
    intro i hi
    have : i = 2 * M + 1 := by omega
    subst this
    exact Ev.step (fun k => lag_Total.l0.eq_2 _ _ _ _ _ k) (evn (by omega) (Ev.now _))
  | succ m ih =>
    intro i hi
    have ih := ih (i + 1) (by omega)
    have c1 := b1 i
    have c2 := b2 i
    have d1 := b1 (i + 1)
    have d2 := b2 (i + 1)
    rw [sumJ] at d1 d2
    rw [sumJ, sumJ] at ih
    refine Ev.step (fun k => lag_Total.l0.eq_2 _ _ _ _ _ k) ?_
    rw [rdL _ _ _ (lagL_get x y M i (2 * M + 1) (by omega)), lagL_length, succ1 (by omega)]
    unfold lagE
    dsimp only
    rw [w64 (x := sumJ (fun j => tot x y ((j : Int) - M) x.length) i + _) (by omega) (by omega), w64 (x := sumJ (fun j => cnt x y ((j : Int) - M) x.length) i + _) (by omega) (by omega)]
    exact evp (by omega) (evp (by omega) (evp (by omega) ih))
theorem total_ev {x y : List Int} (hx : str x) (hy : str y) {M : Nat} (hM : M ≤ 255) (h1 : x.length ≤ M + 1) (h2 : y.length ≤ M + 1) :
    Ev (fun k => lag_Total.f k (lagL x y M (2 * M + 1))) (YS x x.length * YS y y.length, YS (ind x) (ind x).length * YS (ind y) (ind y).length, 0) := by
  have e1 := all_sum x y M h1 h2 x.length (Nat.le_refl _)
  have e2 := all_sum (ind x) (ind y) M (by rw [ind_length]; exact h1) (by rw [ind_length]; exact h2) (ind x).length (Nat.le_refl _)
  have e3 : (fun j : Nat => cnt x y ((j : Int) - M) x.length) = fun j : Nat => tot (ind x) (ind y) ((j : Int) - M) (ind x).length := by
    funext j
    rw [ind_length]
    exact cnt_ind x y _ _
  rw [← e1, ← e2, ← e3]
  refine Ev.congr (fun k => lag_Total.f.eq_1 k _) ?_
  rw [Check_ok (lagL_ok hx hy M _) (by rw [lagL_length]; omega) (by rw [lagL_length]; omega), lagL_length]
  exact Ev.bind (Ev.now _) (evp rfl (total_loop hx hy hM _ 0 (Nat.zero_add _)))
theorem YS_bound {y : List Int} (hy : str y) (n : Nat) : -3 * (n : Int) ≤ YS y n ∧ YS y n ≤ 3 * (n : Int) := by
  induction n with
  | zero => simp [YS]
  | succ n ih =>
    have := str_get hy n
    unfold okd at this
    rw [YS]
    omega
theorem IS_bound (y : List Int) (n : Nat) : 0 ≤ YS (ind y) n ∧ YS (ind y) n ≤ (n : Int) := by
  induction n with
  | zero => simp [YS]
  | succ n ih =>
    rw [YS, ind_getD]
    split <;> omega
section
variable {x y : List Int} (hx : str x) (hy : str y) {s n : Int} (hs : s = YS x x.length * YS y y.length) (hn : n = YS (ind x) x.length * YS (ind y) y.length)
include hx hy hs hn
theorem total_l1 : ∀ (m i : Nat), i + m = y.length → Ev (fun k => fringelaw16_LagTotal.l1 k y true (YS x x.length) (YS y i) (YS (ind x) x.length) (YS (ind y) i) i s n) true := by
  intro m
  have hl := hy.1
  have hlx := hx.1
  induction m with
  | zero =>
    intro i hi
    have : i = y.length := by omega
    subst this
    have b1 := YS_bound hx x.length
    have b2 := YS_bound hy y.length
    have b3 := IS_bound x x.length
    have b4 := IS_bound y y.length
    have p1 : -1000000 ≤ YS x x.length * YS y y.length ∧ YS x x.length * YS y y.length ≤ 1000000 := by
      have h1 := sq_bound (a := YS x x.length + YS y y.length) (b := 1600) (by decide) (by omega) (by omega)
      have h2 := sq_bound (a := YS x x.length - YS y y.length) (b := 1600) (by decide) (by omega) (by omega)
      have h3 := sq_bound (a := YS x x.length) (b := 800) (by decide) (by omega) (by omega)
      have h4 := sq_bound (a := YS y y.length) (b := 800) (by decide) (by omega) (by omega)
      generalize YS x x.length = a at *
      generalize YS y y.length = b at *
      have e1 : (a + b) * (a + b) = a * a + 2 * (a * b) + b * b := by grind
      have e2 : (a - b) * (a - b) = a * a - 2 * (a * b) + b * b := by grind
      omega
    have p2 : 0 ≤ YS (ind x) x.length * YS (ind y) y.length ∧ YS (ind x) x.length * YS (ind y) y.length ≤ 1000000 := by
      have h1 := Int.mul_nonneg b3.1 b4.1
      have h2 := Int.mul_le_mul (show YS (ind x) x.length ≤ 256 by omega) (show YS (ind y) y.length ≤ 256 by omega) b4.1 (by decide)
      omega
    refine Ev.step (fun k => fringelaw16_LagTotal.l1.eq_2 _ _ _ _ _ _ _ _ _ k) (evn (by omega) (evp rfl ?_))
    rw [w64 (x := YS x x.length * YS y y.length) (by omega) (by omega), w64 (x := YS (ind x) x.length * YS (ind y) y.length) (by omega) (by omega), hn]
    refine evp hs ?_
    simp only [beq_self_eq_true]
    exact Ev.now _
  | succ m ih =>
    intro i hi
    have ih := ih (i + 1) (by omega)
    have b2 := YS_bound hy i
    have b4 := IS_bound y i
    have ho := str_get hy i
    unfold okd at ho
    rw [YS, YS, ind_getD] at ih
    refine Ev.step (fun k => fringelaw16_LagTotal.l1.eq_2 _ _ _ _ _ _ _ _ _ k) ?_
    rw [rdD, succ1 (by omega), w64 (x := YS y i + y.getD i 0) (by omega) (by omega), w64 (x := YS (ind y) i + 1) (by omega) (by omega)]
    refine evp (by omega) (evp (by omega) ?_)
    by_cases h : y.getD i 0 = 0
    · rw [if_pos h, Int.add_zero] at ih
      exact evp h ih
    · rw [if_neg h] at ih
      exact evn h ih
theorem total_l0 : ∀ (m i : Nat), i + m = x.length → Ev (fun k => fringelaw16_LagTotal.l0 k x y true (YS x i) 0 (YS (ind x) i) 0 i s n) true := by
  intro m
  have hl := hx.1
  induction m with
  | zero =>
    intro i hi
    have : i = x.length := by omega
    subst this
    exact Ev.step (fun k => fringelaw16_LagTotal.l0.eq_2 _ _ _ _ _ _ _ _ _ _ k) (evn (by omega) (total_l1 hx hy hs hn y.length 0 (Nat.zero_add _)))
  | succ m ih =>
    intro i hi
    have ih := ih (i + 1) (by omega)
    have b2 := YS_bound hx i
    have b4 := IS_bound x i
    have ho := str_get hx i
    unfold okd at ho
    rw [YS, YS, ind_getD] at ih
    refine Ev.step (fun k => fringelaw16_LagTotal.l0.eq_2 _ _ _ _ _ _ _ _ _ _ k) ?_
    rw [rdD, succ1 (by omega), w64 (x := YS x i + x.getD i 0) (by omega) (by omega), w64 (x := YS (ind x) i + 1) (by omega) (by omega)]
    refine evp (by omega) (evp (by omega) ?_)
    by_cases h : x.getD i 0 = 0
    · rw [if_pos h, Int.add_zero] at ih
      exact evp h ih
    · rw [if_neg h] at ih
      exact evn h ih
end
theorem LagTotal : fringelaw16_LagTotal.Pure := by
  intro x y _ _ _ _ _ _
  refine Ev.rounds (Ev.congr (fun k => fringelaw16_LagTotal.f.eq_1 k _ _) ?_)
  refine Ev.bind (g := fun k => fringelaw16_alive.f) (a := true) (Ev.now _) (fits (Ev.step (fun k => fringelaw16_LagTotal.j0.eq_2 _ _ _ _ k) (evp rfl (Ev.now _))) fun hx hy => ?_)
  have h1 := hx.1
  have h2 := hy.1
  obtain ⟨M, hM, hM1, hM2, hM3⟩ : ∃ M : Nat, wrap64 ((mx (mx (x.length : Int) (y.length : Int)) 1) - 1) = (M : Int) ∧ M ≤ 255 ∧ x.length ≤ M + 1 ∧ y.length ≤ M + 1 := by
    have e : ∃ M : Nat, (mx (mx (x.length : Int) (y.length : Int)) 1) - 1 = (M : Int) ∧ M ≤ 255 ∧ x.length ≤ M + 1 ∧ y.length ≤ M + 1 := by
      unfold mx
      split <;> split <;> first | exact ⟨0, by omega, by omega, by omega, by omega⟩ | exact ⟨x.length - 1, by omega, by omega, by omega, by omega⟩ | exact ⟨y.length - 1, by omega, by omega, by omega, by omega⟩
    obtain ⟨M, e1, e2, e3, e4⟩ := e
    exact ⟨M, by rw [e1]; exact w64 (by omega) (by omega), e2, e3, e4⟩
  refine Ev.step (fun k => fringelaw16_LagTotal.j0.eq_2 _ _ _ _ k) (evn (by decide) ?_)
  rw [hM]
  have hc := Check_ok (lagL_ok hx hy M (2 * M + 1)) (by rw [lagL_length]; omega) (by rw [lagL_length]; omega)
  refine Ev.bind (lag_ev hx hy (by omega)) (Ev.bind (total_ev hx hy hM1 hM2 hM3) (evp rfl (evp rfl ?_)))
  dsimp only
  rw [hc]
  refine Ev.bind (Ev.now _) (evp rfl (Ev.bind (rCheck_ok (lagL_ok hx hy M (2 * M + 1)) (by rw [lagL_length]; omega) (by rw [lagL_length]; omega)) ?_))
  refine Ev.step (fun k => fringelaw16_LagTotal.j1.eq_2 _ _ _ _ _ _ k) (evn (by decide) ?_)
  exact total_l0 hx hy rfl (by rw [ind_length, ind_length]) x.length 0 (Nat.zero_add _)
end Go.Proofs.Ytajdbccapandgaa.Pure
