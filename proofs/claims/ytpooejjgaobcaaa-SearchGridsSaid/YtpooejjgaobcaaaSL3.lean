import Derived.Test.YtpooejjgaobcaaaSL2
set_option linter.unusedVariables false
set_option linter.unusedSectionVars false
set_option linter.unusedSimpArgs false
namespace Go.Proofs.Ytpooejjgaobcaaa.SL
open Go Go.RowKit Go.Proofs.Ytpooejjgaobcaaa.PAll Go.Proofs.YtpooejjgaobcaaaW.PrintWords Go.Proofs.YtpooejjgaobcaaaW.PrintLast SM

/-! the reference's best cell -/
def zero32 : S32 := ⟨0, 0, ⟨0, 0⟩, 0⟩
section
variable (x y : List Int) (st : Nat)
def Inv (b : S32) (Q : Int → Int → Prop) : Prop := (b = zero32 ∧ ∀ d r, Q d r → (cellOf x y d st r).f3 = 0) ∨ ∃ d r, Q d r ∧ b = cellOf x y d st r ∧ 0 < b.f3 ∧ ∀ d' r', Q d' r' → ¬ A (cellOf x y d' st r') b
variable {x y st} in
theorem Inv.congr {b : S32} {Q Q' : Int → Int → Prop} (h : ∀ d r, Q d r ↔ Q' d r) (i : Inv x y st b Q) : Inv x y st b Q' := by
  rcases i with ⟨i1, i2⟩ | ⟨d, r, i1, i2, i3, i4⟩
  · exact .inl ⟨i1, fun d r q => i2 d r ((h d r).2 q)⟩
  · exact .inr ⟨d, r, (h d r).1 i1, i2, i3, fun d r q => i4 d r ((h d r).2 q)⟩
variable {x y st} (hx : str x) (hy : str y) (h1 : 1 ≤ st)
include hx hy h1
theorem Inv.step {b : S32} {Q : Int → Int → Prop} {d r : Int} (i : Inv x y st b Q) (h : Q d r ∨ ∀ d' r', Q d' r' → d' * d' < d * d ∨ d' * d' = d * d ∧ (d' < d ∨ d' = d ∧ r' < r)) (hd : -1000 ≤ d ∧ d ≤ 1000) :
    Inv x y st (if (cellOf x y d st r).f3 > b.f3 then cellOf x y d st r else b) (fun d' r' => Q d' r' ∨ d' = d ∧ r' = r) := by
  have hp := (cell_pw (d := d) (r := r) hx hy hd h1).2
  rcases i with ⟨i1, i2⟩ | ⟨d0, r0, i1, i2, i3, i4⟩
  · subst i1
    by_cases hc : (cellOf x y d st r).f3 > zero32.f3
    · rw [if_pos hc]
      have hc0 : (cellOf x y d st r).f3 > 0 := hc
      refine .inr ⟨d, r, .inr ⟨rfl, rfl⟩, rfl, hc0, fun d' r' q => ?_⟩
      rcases q with q | ⟨rfl, rfl⟩
      · have := i2 d' r' q
        unfold A
        omega
      · exact A_irr _
    · rw [if_neg hc]
      have hc0 : ¬ (cellOf x y d st r).f3 > 0 := hc
      refine .inl ⟨rfl, fun d' r' q => ?_⟩
      rcases q with q | ⟨rfl, rfl⟩
      · exact i2 d' r' q
      · omega
  · by_cases hc : (cellOf x y d st r).f3 > b.f3
    · rw [if_pos hc]
      refine .inr ⟨d, r, .inr ⟨rfl, rfl⟩, rfl, by omega, fun d' r' q => ?_⟩
      rcases q with q | ⟨rfl, rfl⟩
      · have := i4 d' r' q
        intro hh
        refine this ?_
        unfold A at hh ⊢
        omega
      · exact A_irr _
    · rw [if_neg hc]
      refine .inr ⟨d0, r0, .inl i1, i2, i3, fun d' r' q => ?_⟩
      rcases q with q | ⟨rfl, rfl⟩
      · exact i4 d' r' q
      · rcases h with h | h
        · exact i4 _ _ h
        · have hk := h d0 r0 i1
          have e0 : b.f0 = d0 := by rw [i2]; rfl
          have e1 : b.f1 = r0 := by rw [i2]; rfl
          have f0 : (cellOf x y d' st r').f0 = d' := rfl
          have f1 : (cellOf x y d' st r').f1 = r' := rfl
          unfold A
          rw [e0, e1, f0, f1]
          generalize d' * d' = p at *
          generalize d0 * d0 = q at *
          omega
theorem rbest_row {a2 x13 x14 d : Int} {Q : Int → Int → Prop} {b : S32} {res : Int × Int × Int × Int × Int × Int} (hd : -1000 ≤ d ∧ d ≤ 1000) (e : wrap64 (x14 * x13) = d)
    (i : Inv x y st b Q) (h : (∀ r, 0 ≤ r ∧ r ≤ 3 → Q d r) ∨ ∀ d' r', Q d' r' → d' * d' < d * d ∨ d' * d' = d * d ∧ d' < d)
    (hh : ∀ b, Inv x y st b (fun d' r' => Q d' r' ∨ d' = d ∧ 0 ≤ r' ∧ r' ≤ 3) → Ev (fun k => fringeref20_Best.l1 k x y a2 st x13 (wrap64 (x14 + 2)) b.f0 b.f1 b.f2.f0 b.f2.f1 b.f3) res) :
    Ev (fun k => fringeref20_Best.l2 k x y a2 st x13 x14 0 b.f0 b.f1 b.f2.f0 b.f2.f1 b.f3) res := by
  have key : ∀ (m i : Nat), i + m = 4 → ∀ b, Inv x y st b (fun d' r' => Q d' r' ∨ d' = d ∧ 0 ≤ r' ∧ r' < i) → Ev (fun k => fringeref20_Best.l2 k x y a2 st x13 x14 i b.f0 b.f1 b.f2.f0 b.f2.f1 b.f3) res := by
    intro m
    induction m with
    | zero =>
      intro i hi b ib
      refine Ev.step (fun k => fringeref20_Best.l2.eq_2 _ _ _ _ _ _ _ _ _ _ _ _ k) (evn (by omega) ?_)
      have hi4 : (i : Int) = 4 := by omega
      refine hh b (ib.congr (fun d' r' => ?_))
      rw [hi4]
      constructor
      · rintro (q | q)
        · exact .inl q
        · exact .inr (by omega)
      · rintro (q | q)
        · exact .inl q
        · exact .inr (by omega)
    | succ m ih =>
      intro i hi b ib
      refine Ev.step (fun k => fringeref20_Best.l2.eq_2 _ _ _ _ _ _ _ _ _ _ _ _ k) (evp (by omega) ?_)
      rw [e, succ1 (by omega)]
      have is := Inv.step hx hy h1 (d := d) (r := i) ib (by
        rcases h with h | h
        · exact .inl (.inl (h i (by omega)))
        · refine .inr (fun d' r' q => ?_)
          rcases q with q | ⟨rfl, q⟩
          · have := h d' r' q
            omega
          · omega) hd
      have is := is.congr (Q' := fun d' r' => Q d' r' ∨ d' = d ∧ 0 ≤ r' ∧ r' < ((i + 1 : Nat) : Int)) (fun d' r' => by
        constructor
        · rintro ((q | q) | q)
          · exact .inl q
          · exact .inr (by omega)
          · exact .inr (by omega)
        · rintro (q | q)
          · exact .inl (.inl q)
          · by_cases hri : r' = i
            · exact .inr ⟨q.1, hri⟩
            · exact .inl (.inr (by omega)))
      have hn := ih (i + 1) (by omega) _ is
      refine Ev.bind (found_ev hx hy hd h1 (by omega)) ?_
      dsimp only
      by_cases hc : (cellOf x y d st i).f3 > b.f3
      · rw [if_pos hc] at hn
        exact evp hc hn
      · rw [if_neg hc] at hn
        exact evn hc hn
  refine key 4 0 (by omega) b (i.congr (fun d' r' => ⟨fun q => .inl q, fun q => ?_⟩))
  rcases q with q | ⟨_, q⟩
  · exact q
  · omega
theorem rbest_loop {most : Nat} (hm : most ≤ 32) {res : Int × Int × Int × Int × Int × Int}
    (hh : ∀ b, Inv x y st b (fun d r => (-(most : Int) ≤ d ∧ d ≤ most) ∧ 0 ≤ r ∧ r ≤ 3) → res = if b.f3 = 0 then (0, 0, 0, 0, 0, 18) else (b.f0, b.f1, b.f2.f0, b.f2.f1, b.f3, 0)) :
    ∀ (m l : Nat), l + m = most + 1 → ∀ b, Inv x y st b (fun d r => (-(l : Int) < d ∧ d < l) ∧ 0 ≤ r ∧ r ≤ 3) → Ev (fun k => fringeref20_Best.l0 k x y most st l b.f0 b.f1 b.f2.f0 b.f2.f1 b.f3) res := by
  intro m
  induction m with
  | zero =>
    intro l hl b ib
    have hr := hh b (ib.congr (by intro d' r'; omega))
    refine Ev.step (fun k => fringeref20_Best.l0.eq_2 _ _ _ _ _ _ _ _ _ _ k) (evn (by omega) ?_)
    by_cases hz : b.f3 = 0
    · rw [if_pos hz] at hr
      rw [hr]
      exact evp hz (Ev.now _)
    · rw [if_neg hz] at hr
      rw [hr]
      exact evn hz (Ev.now _)
  | succ m ih =>
    intro l hl b ib
    refine Ev.step (fun k => fringeref20_Best.l0.eq_2 _ _ _ _ _ _ _ _ _ _ k) (evp (by omega) ?_)
    refine Ev.step (fun k => fringeref20_Best.l1.eq_2 _ _ _ _ _ _ _ _ _ _ _ k) (evp (by omega) ?_)
    refine rbest_row hx hy h1 (d := -(l : Int)) (by omega) (by rw [show (-1 : Int) * (l : Int) = -(l : Int) by omega]; exact w64 (by omega) (by omega)) ib (.inr fun d' r' q => .inl ?_) (fun b ib => ?_)
    · have := sq_bound (a := d') (b := (l : Int) - 1) (by omega) (by omega) (by omega)
      have e : ((l : Int) - 1) * ((l : Int) - 1) = (l : Int) * l - 2 * l + 1 := by grind
      rw [Int.neg_mul_neg]
      omega
    rw [show wrap64 ((-1 : Int) + 2) = 1 by rw [w64 (by decide) (by decide)]; rfl]
    refine Ev.step (fun k => fringeref20_Best.l1.eq_2 _ _ _ _ _ _ _ _ _ _ _ k) (evp (by omega) ?_)
    refine rbest_row hx hy h1 (d := (l : Int)) (by omega) (by rw [Int.one_mul]; exact w64 (by omega) (by omega)) ib ?_ (fun b ib => ?_)
    · by_cases h0 : l = 0
      · subst h0
        exact .inl fun r hr => .inr ⟨by simp, hr⟩
      · refine .inr fun d' r' q => ?_
        rcases q with q | ⟨rfl, q⟩
        · have := sq_bound (a := d') (b := (l : Int) - 1) (by omega) (by omega) (by omega)
          have e : ((l : Int) - 1) * ((l : Int) - 1) = (l : Int) * l - 2 * l + 1 := by grind
          omega
        · rw [Int.neg_mul_neg]
          exact .inr ⟨rfl, by omega⟩
    rw [show wrap64 ((1 : Int) + 2) = 3 by rw [w64 (by decide) (by decide)]; rfl]
    refine Ev.step (fun k => fringeref20_Best.l1.eq_2 _ _ _ _ _ _ _ _ _ _ _ k) (evn (by omega) ?_)
    rw [succ1 (by omega)]
    exact ih (l + 1) (by omega) b (ib.congr (by intro d' r'; omega))
theorem best_same {most : Nat} (hm : most ≤ 32) {b : S32} (i : Inv x y st b (fun d r => (-(most : Int) ≤ d ∧ d ≤ most) ∧ 0 ≤ r ∧ r ≤ 3)) :
    bestR x y most st = if b.f3 = 0 then (0, 0, 0, 0, 0, 18) else (b.f0, b.f1, b.f2.f0, b.f2.f1, b.f3, 0) := by
  obtain ⟨d, r, hd, hr, e, hA⟩ := bestC_spec x y (st := st) hm
  have hp := (cell_pw (d := d) (r := r) hx hy (by omega) h1).2
  unfold bestR
  rw [e]
  rcases i with ⟨i1, i2⟩ | ⟨d0, r0, i1, i2, i3, i4⟩
  · have := i2 d r ⟨hd, hr⟩
    subst i1
    rw [if_pos this, if_pos (show zero32.f3 = 0 from rfl)]
  · have a1 := hA d0 r0 i1.1 i1.2
    have a2 := i4 d r ⟨hd, hr⟩
    rw [← i2] at a1
    have hs : d = d0 ∧ r = r0 := by
      have e0 : b.f0 = d0 := by rw [i2]; rfl
      have e1 : b.f1 = r0 := by rw [i2]; rfl
      have f0 : (cellOf x y d st r).f0 = d := rfl
      have f1 : (cellOf x y d st r).f1 = r := rfl
      unfold A at a1 a2
      rw [e0, e1, f0, f1] at a1 a2
      generalize d * d = p at *
      generalize d0 * d0 = q at *
      omega
    obtain ⟨rfl, rfl⟩ := hs
    rw [← i2]
end
theorem rbest_ev {x y : List Int} {st : Nat} (hx : str x) (hy : str y) (h1 : 1 ≤ st) {most : Nat} (hm : most ≤ 32) (h2 : st ≤ 256) : Ev (fun k => fringeref20_Best.f k x y most st) (bestR x y most st) := by
  refine Ev.congr (fun k => fringeref20_Best.f.eq_1 k _ _ _ _) (Ev.bind (rgrid_ev (st := 1) str_nil str_nil (by omega) hm (by omega)) (Ev.bind (asked_ev x y st) ?_))
  rw [askE_of hx hy (by omega) (by omega)]
  refine evp rfl ?_
  refine Ev.step (fun k => fringeref20_Best.j0.eq_2 _ _ _ _ _ _ k) (evn (by simp) ?_)
  refine rbest_loop hx hy h1 hm (fun b ib => best_same hx hy h1 hm ib) (most + 1) 0 (by omega) zero32 (.inl ⟨rfl, fun d r q => ?_⟩)
  omega
theorem S32_same (l : List S32) : ∀ (m i : Nat), i + m = l.length → l.length ≤ 1000 → Ev (fun k => fringeref20_Same.l0 k l l i) true := by
  intro m
  induction m with
  | zero =>
    intro i hi hl
    exact Ev.step (fun k => fringeref20_Same.l0.eq_2 _ _ _ k) (evn (by omega) (Ev.now _))
  | succ m ih =>
    intro i hi hl
    refine Ev.step (fun k => fringeref20_Same.l0.eq_2 _ _ _ k) (evp (by omega) (evp (by omega) (evp (by omega) (evn (by simp) ?_))))
    rw [succ1 (by omega)]
    exact ih (i + 1) (by omega) hl
theorem same32_ev {l : List S32} (h : l.length ≤ 1000) : Ev (fun k => fringeref20_Same.f k l l) true :=
  Ev.congr (fun k => fringeref20_Same.f.eq_1 k _ _) (evp rfl (S32_same l l.length 0 (Nat.zero_add _) h))
end Go.Proofs.Ytpooejjgaobcaaa.SL
