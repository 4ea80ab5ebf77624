import Derived.Test.YtpooejjgaobcaaaSL2
import Derived.Test.YtpooejjgaobcaaaPAllx16
import Derived.Test.YtpooejjgaobcaaaPAllx6
import Derived.Test.YtpooejjgaobcaaaPAllx17
import Derived.Test.YtpooejjgaobcaaaPAllx25
set_option linter.unusedVariables false
set_option linter.unusedSectionVars false
set_option linter.unusedSimpArgs false
namespace Go.Proofs.Ytpooejjgaobcaaa.SL
open Go Go.RowKit Go.Proofs.Ytpooejjgaobcaaa.PAll Go.Proofs.YtpooejjgaobcaaaW.PrintWords Go.Proofs.YtpooejjgaobcaaaW.PrintLast SM

theorem asked_ev (x y : List Int) (s : Int) : Ev (fun k => fringeref20_asked.f k x y s) (askE x y s) := by
  refine Ev.congr (fun k => fringeref20_asked.f.eq_1 k _ _ _) (Ev.bind (refCheck_ev x) ?_)
  unfold askE
  by_cases h1 : chk x = 0
  · rw [if_pos h1]
    refine evp h1 (Ev.bind (refCheck_ev y) ?_)
    by_cases h2 : chk y = 0
    · rw [if_pos h2]
      refine evp h2 ?_
      by_cases h3 : s < 1
      · simp only [if_pos h3]; exact Ev.now 2
      · simp only [if_neg h3]
        by_cases h4 : s > 256
        · simp only [if_pos h4]; exact Ev.now 2
        · simp only [if_neg h4]; exact Ev.now 0
    · rw [if_neg h2]
      exact evn h2 (Ev.bind (refCheck_ev y) (Ev.now _))
  · rw [if_neg h1]
    exact evn h1 (Ev.bind (refCheck_ev x) (Ev.now _))
theorem Turned_eq {a b : Int} (q : Int) (ha : -4611686018427387904 ≤ a ∧ a ≤ 4611686018427387904) (hb : -4611686018427387904 ≤ b ∧ b ≤ 4611686018427387904) : fringeref20_Turned.f a b q = some (Tz q a b) := by
  unfold fringeref20_Turned.f Tz
  rw [four]
  have hq : 0 ≤ q % 4 ∧ q % 4 < 4 := by omega
  generalize q % 4 = n at *
  have e1 : wrap64 (-b) = -b := w64 (by omega) (by omega)
  have e2 : wrap64 (-a) = -a := w64 (by omega) (by omega)
  have hn : (n = 0 ∨ n = 1) ∨ n = 2 ∨ n = 3 := by omega
  rcases hn with (rfl | rfl) | rfl | rfl <;> simp [e1, e2]

section
variable {x y : List Int} {d : Int} {st : Nat} (hx : str x) (hy : str y) (hd : -1000 ≤ d ∧ d ≤ 1000) (h1 : 1 ≤ st)
include hx hy hd h1
theorem found_loop {r : Int} (hr : 0 ≤ r ∧ r ≤ 3) : ∀ (m i : Nat), i + m = x.length → 
    Ev (fun k => fringeref20_Found.l0 k x y d r st i d r (W x y d st r i).1 (W x y d st r i).2 0) (d, r, (W x y d st r x.length).1, (W x y d st r x.length).2, wrap64 (wrap64 ((W x y d st r x.length).1 * (W x y d st r x.length).1) + wrap64 ((W x y d st r x.length).2 * (W x y d st r x.length).2))) := by
  intro m
  have hl := hx.1
  have hly := hy.1
  induction m with
  | zero =>
    intro i hi
    have : i = x.length := by omega
    subst this
    refine Ev.step (fun k => fringeref20_Found.l0.eq_2 _ _ _ _ _ _ _ _ _ _ _ k) ?_
    exact evn (by omega) (Ev.now _)
  | succ m ih =>
    intro i hi
    have ih := ih (i + 1) (by omega)
    have hb := pr_bound x y d hx hy i
    have e0 : wrap64 ((i : Int) + d) = (i : Int) + d := w64 (by omega) (by omega)
    have e1 := divw (st := st) (i := i) (by omega)
    have hdiv := Nat.div_le_self i st
    have e2 : wrap64 (wrap64 (-r) * ((i / st : Nat) : Int)) = -r * ((i / st : Nat) : Int) := by
      rw [w64 (x := -r) (by omega) (by omega)]
      generalize i / st = q at *
      have hr4 : (r = 0 ∨ r = 1) ∨ r = 2 ∨ r = 3 := by omega
      rcases hr4 with (rfl | rfl) | rfl | rfl <;> exact w64 (by omega) (by omega)
    have hW := W_eq x y d st r hr i
    have hs : ∀ t, -2304 ≤ S x y d st t i ∧ S x y d st t i ≤ 2304 := fun t => by
      have := S_bound x y d st hx hy t i
      omega
    have hV := V_bound hs r
    rw [← hW] at hV
    have hT := Tz_bound (B := 9) (a := pr x y d i) (b := 0) (-r * ((i / st : Nat) : Int)) hb (by omega)
    refine Ev.step (fun k => fringeref20_Found.l0.eq_2 _ _ _ _ _ _ _ _ _ _ _ k) ?_
    rw [e0, e1, e2, succ1 (by omega)]
    refine evp (by omega) ?_
    by_cases hc : 0 ≤ (i : Int) + d ∧ (i : Int) + d < y.length
    · rw [prod_eq hx hy hd h1 i hc, Turned_eq _ (by omega) (by omega)]
      refine evn (by omega) (evn (by omega) (evp (by omega) (evp (by omega) (evp (by omega) (evn (by omega) (Ev.bind (Ev.now _) ?_))))))
      rw [W] at ih
      dsimp only at ih ⊢
      rw [w64 (x := (W x y d st r i).1 + _) (by omega) (by omega), w64 (x := (W x y d st r i).2 + _) (by omega) (by omega)]
      exact ih
    · have ep : pr x y d i = 0 := if_neg hc
      have ez : Tz (-r * ((i / st : Nat) : Int)) 0 0 = (0, 0) := by unfold Tz; simp
      rw [W, ep, ez] at ih
      simp only [Int.add_zero] at ih
      by_cases hc1 : (i : Int) + d < 0
      · exact evp hc1 ih
      · exact evn hc1 (evp (by omega) ih)
theorem found_ev {r : Int} (hr : 0 ≤ r ∧ r ≤ 3) : Ev (fun k => fringeref20_Found.f k x y d r st) ((cellOf x y d st r).f0, (cellOf x y d st r).f1, (cellOf x y d st r).f2.f0, (cellOf x y d st r).f2.f1, (cellOf x y d st r).f3) := by
  have h := found_loop hx hy hd h1 hr x.length 0 (Nat.zero_add _)
  have hs := fun t => S_le (d := d) (st := st) hx hy t
  have hV := V_bound hs r
  have hp := (pw_wrap (v := V r (fun t => S x y d st t x.length)) (by omega)).1
  rw [W_eq x y d st r hr x.length, hp] at h
  exact Ev.congr (fun k => fringeref20_Found.f.eq_1 k _ _ _ _ _) h
end
section
variable {x y : List Int} {st : Nat} (hx : str x) (hy : str y) (h1 : 1 ≤ st)
include hx hy h1
/-! the reference's grid -/
theorem rgrid_step {a2 d : Int} {i : Nat} {out : List S32} {res : List S32 × Int} (hd : -1000 ≤ d ∧ d ≤ 1000) (hi : (i : Int) < 4) (ho : out.length ≤ 1000)
    (h : Ev (fun k => fringeref20_Grid.l1 k x y a2 st (out ++ [cellOf x y d st i]) d ((i + 1 : Nat) : Int)) res) : Ev (fun k => fringeref20_Grid.l1 k x y a2 st out d i) res := by
  refine Ev.step (fun k => fringeref20_Grid.l1.eq_2 _ _ _ _ _ _ _ k) (evp hi ?_)
  rw [succ1 (by omega)]
  exact Ev.bind (found_ev hx hy hd h1 (by omega)) (evp (by omega) h)
theorem rgrid_row {a2 d : Int} {out : List S32} {res : List S32 × Int} (hd : -1000 ≤ d ∧ d ≤ 1000) (ho : out.length ≤ 900)
    (h : Ev (fun k => fringeref20_Grid.l0 k x y a2 st (out ++ row x y d st) (wrap64 (d + 1))) res) : Ev (fun k => fringeref20_Grid.l1 k x y a2 st out d 0) res := by
  refine rgrid_step hx hy h1 (i := 0) hd (by omega) (by omega) ?_
  refine rgrid_step hx hy h1 (i := 1) hd (by omega) (by simp; omega) ?_
  refine rgrid_step hx hy h1 (i := 2) hd (by omega) (by simp; omega) ?_
  refine rgrid_step hx hy h1 (i := 3) hd (by omega) (by simp; omega) ?_
  refine Ev.step (fun k => fringeref20_Grid.l1.eq_2 _ _ _ _ _ _ _ k) (evn (by omega) ?_)
  simp only [List.append_assoc, List.cons_append, List.nil_append]
  exact h
theorem rgrid_loop {most : Nat} (hm : most ≤ 32) : ∀ (m i : Nat), i + m = 2 * most + 1 → Ev (fun k => fringeref20_Grid.l0 k x y most st (gridL x y most st i) ((i : Int) - most)) (gridL x y most st (2 * most + 1), 0) := by
  intro m
  induction m with
  | zero =>
    intro i hi
    have : i = 2 * most + 1 := by omega
    subst this
    exact Ev.step (fun k => fringeref20_Grid.l0.eq_2 _ _ _ _ _ _ k) (evn (by omega) (Ev.now _))
  | succ m ih =>
    intro i hi
    refine Ev.step (fun k => fringeref20_Grid.l0.eq_2 _ _ _ _ _ _ k) (evp (by omega) ?_)
    refine rgrid_row hx hy h1 (d := (i : Int) - most) (by omega) (by rw [gridL_length]; omega) ?_
    rw [w64 (by omega) (by omega)]
    have := ih (i + 1) (by omega)
    rw [show (((i + 1 : Nat) : Int) - most) = (i : Int) - most + 1 by omega] at this
    exact this
theorem rgrid_ev {most : Nat} (hm : most ≤ 32) (h2 : st ≤ 256) : Ev (fun k => fringeref20_Grid.f k x y most st) (gridL x y most st (2 * most + 1), 0) := by
  refine Ev.congr (fun k => fringeref20_Grid.f.eq_1 k _ _ _ _) (Ev.bind (asked_ev x y st) ?_)
  rw [askE_of hx hy (by omega) (by omega)]
  refine evp rfl (evn (by omega) ?_)
  refine Ev.step (fun k => fringeref20_Grid.j0.eq_2 _ _ _ _ _ k) (evn (by rw [decide_eq_true_eq]; omega) ?_)
  rw [w64 (by omega) (by omega)]
  have := rgrid_loop hx hy h1 hm _ 0 (Nat.zero_add _)
  rw [show (((0 : Nat) : Int) - most) = -(most : Int) by omega] at this
  exact this
end
end Go.Proofs.Ytpooejjgaobcaaa.SL
