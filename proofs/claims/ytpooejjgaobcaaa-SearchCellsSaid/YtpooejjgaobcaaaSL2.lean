import Derived.Test.YtpooejjgaobcaaaSL
import Derived.Test.YtpooejjgaobcaaaPAllx26
import Derived.Test.YtpooejjgaobcaaaPAllx13
set_option linter.unusedVariables false
set_option linter.unusedSectionVars false
set_option linter.unusedSimpArgs false
namespace Go.Proofs.Ytpooejjgaobcaaa.SL
open Go Go.RowKit Go.Proofs.Ytpooejjgaobcaaa.PAll Go.Proofs.YtpooejjgaobcaaaW.PrintWords Go.Proofs.YtpooejjgaobcaaaW.PrintLast SM

/-! the grid -/
def row (x y : List Int) (d : Int) (st : Nat) : List S32 := [cellOf x y d st 0, cellOf x y d st 1, cellOf x y d st 2, cellOf x y d st 3]
def gridL (x y : List Int) (most : Nat) (st : Nat) : Nat → List S32
  | 0 => []
  | l + 1 => gridL x y most st l ++ row x y ((l : Int) - most) st
theorem gridL_length (x y : List Int) (most st : Nat) : ∀ n, (gridL x y most st n).length = 4 * n
  | 0 => rfl
  | n + 1 => by rw [gridL, List.length_append, gridL_length x y most st n]; simp [row]; omega
theorem gridL_head (x y : List Int) (most st : Nat) : ∀ n, ∃ t, gridL x y most st (n + 1) = cellOf x y (-(most : Int)) st 0 :: t
  | 0 => ⟨[cellOf x y (-(most : Int)) st 1, cellOf x y (-(most : Int)) st 2, cellOf x y (-(most : Int)) st 3], by simp [gridL, row]⟩
  | n + 1 => by
    obtain ⟨t, h⟩ := gridL_head x y most st n
    rw [gridL, h]
    exact ⟨_, rfl⟩
theorem mem_row {x y : List Int} {d : Int} {st : Nat} {c : S32} : c ∈ row x y d st ↔ ∃ r, (0 ≤ r ∧ r ≤ 3) ∧ c = cellOf x y d st r := by
  unfold row
  constructor
  · intro h
    simp only [List.mem_cons, List.not_mem_nil, or_false] at h
    rcases h with h | h | h | h
    · exact ⟨0, by omega, h⟩
    · exact ⟨1, by omega, h⟩
    · exact ⟨2, by omega, h⟩
    · exact ⟨3, by omega, h⟩
  · rintro ⟨r, hr, rfl⟩
    have hr4 : (r = 0 ∨ r = 1) ∨ r = 2 ∨ r = 3 := by omega
    rcases hr4 with (rfl | rfl) | rfl | rfl <;> simp
theorem mem_grid {x y : List Int} {most st : Nat} {c : S32} : ∀ n, c ∈ gridL x y most st n ↔ ∃ d r, (-(most : Int) ≤ d ∧ d < n - most) ∧ (0 ≤ r ∧ r ≤ 3) ∧ c = cellOf x y d st r
  | 0 => by
    simp only [gridL, List.not_mem_nil, false_iff]
    rintro ⟨d, r, h, _⟩
    omega
  | n + 1 => by
    rw [gridL, List.mem_append, mem_grid n, mem_row]
    constructor
    · rintro (⟨d, r, h1, h2, h3⟩ | ⟨r, h2, h3⟩)
      · exact ⟨d, r, by omega, h2, h3⟩
      · exact ⟨_, r, by omega, h2, h3⟩
    · rintro ⟨d, r, h1, h2, h3⟩
      by_cases h : d = (n : Int) - most
      · subst h
        exact .inr ⟨r, h2, h3⟩
      · exact .inl ⟨d, r, by omega, h2, h3⟩
section
variable {x y : List Int} {st : Nat} (hx : str x) (hy : str y) (h1 : 1 ≤ st)
include hx hy h1
theorem grid_step {a2 x12 x29 x30 d : Int} {i : Nat} {out : List S32} {res : List S32 × Int} (hd : -1000 ≤ d ∧ d ≤ 1000) (e : wrap64 (x12 - a2) = d) (hi : (i : Int) < 4) (ho : out.length ≤ 1000)
    (h : Ev (fun k => search_Grid.l1 k x y a2 st (out ++ [cellOf x y d st i]) x12 x29 x30 ((i + 1 : Nat) : Int)) res) : Ev (fun k => search_Grid.l1 k x y a2 st out x12 x29 x30 i) res := by
  refine Ev.step (fun k => search_Grid.l1.eq_2 _ _ _ _ _ _ _ _ _ k) (evp hi ?_)
  rw [e, succ1 (by omega)]
  exact Ev.bind (cell_ev hx hy hd h1 (by omega)) (evp (by omega) h)
theorem grid_row {a2 x12 x29 x30 d : Int} {out : List S32} {res : List S32 × Int} (hd : -1000 ≤ d ∧ d ≤ 1000) (e : wrap64 (x12 - a2) = d) (ho : out.length ≤ 900)
    (h : Ev (fun k => search_Grid.l0 k x y a2 st (out ++ row x y d st) x29 (wrap64 (x30 + 1))) res) : Ev (fun k => search_Grid.l1 k x y a2 st out x12 x29 x30 0) res := by
  refine grid_step hx hy h1 (i := 0) hd e (by omega) (by omega) ?_
  refine grid_step hx hy h1 (i := 1) hd e (by omega) (by simp; omega) ?_
  refine grid_step hx hy h1 (i := 2) hd e (by omega) (by simp; omega) ?_
  refine grid_step hx hy h1 (i := 3) hd e (by omega) (by simp; omega) ?_
  refine Ev.step (fun k => search_Grid.l1.eq_2 _ _ _ _ _ _ _ _ _ k) (evn (by omega) ?_)
  simp only [List.append_assoc, List.cons_append, List.nil_append]
  exact h
theorem grid_loop {most : Nat} (hm : most ≤ 32) : ∀ (m i : Nat), i + m = 2 * most + 1 → Ev (fun k => search_Grid.l0 k x y most st (gridL x y most st i) ((2 * most + 1 : Nat) : Int) i) (gridL x y most st (2 * most + 1), 0) := by
  intro m
  induction m with
  | zero =>
    intro i hi
    have : i = 2 * most + 1 := by omega
    subst this
    exact Ev.step (fun k => search_Grid.l0.eq_2 _ _ _ _ _ _ _ k) (evn (by omega) (Ev.now _))
  | succ m ih =>
    intro i hi
    refine Ev.step (fun k => search_Grid.l0.eq_2 _ _ _ _ _ _ _ k) (evp (by omega) ?_)
    refine grid_row hx hy h1 (d := (i : Int) - most) (by omega) (w64 (by omega) (by omega)) (by rw [gridL_length]; omega) ?_
    rw [succ1 (by omega)]
    exact ih (i + 1) (by omega)
theorem grid_ev {most : Nat} (hm : most ≤ 32) (h2 : st ≤ 256) : Ev (fun k => search_Grid.f k x y most st) (gridL x y most st (2 * most + 1), 0) := by
  refine Ev.congr (fun k => search_Grid.f.eq_1 k _ _ _ _) ?_
  rw [search_check_eq, askE_of hx hy (by omega) (by omega)]
  refine Ev.bind (Ev.now _) (evp rfl (evn (by omega) ?_))
  refine Ev.step (fun k => search_Grid.j0.eq_2 _ _ _ _ _ k) (evn (by rw [decide_eq_true_eq]; omega) ?_)
  rw [w64 (x := 2 * (most : Int)) (by omega) (by omega), w64 (by omega) (by omega)]
  exact grid_loop hx hy h1 hm _ 0 (Nat.zero_add _)

theorem at_ev {d r : Int} (hd : -32 ≤ d ∧ d ≤ 32) (hr : 0 ≤ r ∧ r ≤ 3) (h2 : st ≤ 256) : Ev (fun k => search_At.f k x y d r st) ((cellOf x y d st r).f0, (cellOf x y d st r).f1, (cellOf x y d st r).f2.f0, (cellOf x y d st r).f2.f1, (cellOf x y d st r).f3, 0) := by
  refine Ev.congr (fun k => search_At.f.eq_1 k _ _ _ _ _) ?_
  rw [search_check_eq, askE_of hx hy (by omega) (by omega)]
  exact Ev.bind (Ev.now _) (evp rfl (evn (by omega) (evn (by omega) (evn (by omega) (evn (by omega) (Ev.bind (cell_ev hx hy (by omega) h1 hr) (Ev.now _)))))))
end
/-! which cell goes before -/
def A (c b : S32) : Prop := c.f3 > b.f3 ∨ c.f3 = b.f3 ∧ (c.f0 * c.f0 < b.f0 * b.f0 ∨ c.f0 * c.f0 = b.f0 * b.f0 ∧ (c.f0 < b.f0 ∨ c.f0 = b.f0 ∧ c.f1 < b.f1))
theorem aft_iff {c b : S32} (hc : -1000 ≤ c.f0 ∧ c.f0 ≤ 1000) (hb : -1000 ≤ b.f0 ∧ b.f0 ≤ 1000) : search_aft c b = true ↔ A c b := by
  have h1 := sq_bound (b := 1000) (by decide) hc.1 hc.2
  have h2 := sq_bound (b := 1000) (by decide) hb.1 hb.2
  unfold search_aft A
  rw [w64 (x := c.f0 * c.f0) (by omega) (by omega), w64 (x := b.f0 * b.f0) (by omega) (by omega)]
  generalize c.f0 * c.f0 = p at *
  generalize b.f0 * b.f0 = q at *
  by_cases e1 : c.f3 = b.f3
  · rw [if_pos e1]
    by_cases e2 : p = q
    · rw [if_pos e2]
      by_cases e3 : c.f0 = b.f0
      · rw [if_pos e3, decide_eq_true_eq]; omega
      · rw [if_neg e3, decide_eq_true_eq]; omega
    · rw [if_neg e2, decide_eq_true_eq]; omega
  · rw [if_neg e1, decide_eq_true_eq]; omega
theorem A_trans {a b c : S32} (h1 : A a b) (h2 : A b c) : A a c := by
  unfold A at *
  generalize a.f0 * a.f0 = p at *
  generalize b.f0 * b.f0 = q at *
  generalize c.f0 * c.f0 = r at *
  omega
theorem A_irr (a : S32) : ¬ A a a := by
  unfold A
  generalize a.f0 * a.f0 = p at *
  omega
theorem bst_spec : ∀ (l : List S32) (b : S32), (-1000 ≤ b.f0 ∧ b.f0 ≤ 1000) → (∀ c ∈ l, -1000 ≤ c.f0 ∧ c.f0 ≤ 1000) → (search_bst b l = b ∨ search_bst b l ∈ l) ∧ ¬ A b (search_bst b l) ∧ ∀ c ∈ l, ¬ A c (search_bst b l)
  | [], b, hb, hl => ⟨.inl rfl, A_irr _, fun c h => by simp at h⟩
  | c :: l, b, hb, hl => by
    have hc := hl c (List.mem_cons_self)
    have hr := fun d hd => hl d (List.mem_cons_of_mem c hd)
    have e : search_bst b (c :: l) = search_bst (if search_aft c b then c else b) l := rfl
    rw [e]
    by_cases h : search_aft c b = true
    · rw [if_pos h]
      have ha := (aft_iff hc hb).1 h
      obtain ⟨i1, i2, i3⟩ := bst_spec l c hc hr
      refine ⟨?_, fun hh => i2 (A_trans ha hh), fun d hd => ?_⟩
      · rcases i1 with i1 | i1
        · rw [i1]; exact .inr List.mem_cons_self
        · exact .inr (List.mem_cons_of_mem c i1)
      · rcases List.mem_cons.1 hd with rfl | hd
        · exact i2
        · exact i3 d hd
    · rw [if_neg h]
      have ha : ¬ A c b := fun hh => h ((aft_iff hc hb).2 hh)
      obtain ⟨i1, i2, i3⟩ := bst_spec l b hb hr
      refine ⟨?_, i2, fun d hd => ?_⟩
      · rcases i1 with i1 | i1
        · exact .inl i1
        · exact .inr (List.mem_cons_of_mem c i1)
      · rcases List.mem_cons.1 hd with rfl | hd
        · intro hh
          rcases i1 with i1 | i1
          · rw [i1] at hh; exact ha hh
          · generalize search_bst b l = z at *
            unfold A at *
            generalize d.f0 * d.f0 = p at *
            generalize b.f0 * b.f0 = q at *
            generalize z.f0 * z.f0 = r at *
            omega
        · exact i3 d hd
def bestC (x y : List Int) (most st : Nat) : S32 := search_bst (cellOf x y (-(most : Int)) st 0) (gridL x y most st (2 * most + 1))
theorem bestC_spec (x y : List Int) {most st : Nat} (hm : most ≤ 32) : ∃ d r, (-(most : Int) ≤ d ∧ d ≤ most) ∧ (0 ≤ r ∧ r ≤ 3) ∧ bestC x y most st = cellOf x y d st r ∧ ∀ d' r', (-(most : Int) ≤ d' ∧ d' ≤ most) → (0 ≤ r' ∧ r' ≤ 3) → ¬ A (cellOf x y d' st r') (cellOf x y d st r) := by
  have hg := fun c => mem_grid (x := x) (y := y) (most := most) (st := st) (c := c) (2 * most + 1)
  obtain ⟨i1, i2, i3⟩ := bst_spec (gridL x y most st (2 * most + 1)) (cellOf x y (-(most : Int)) st 0) (show -1000 ≤ -(most : Int) ∧ -(most : Int) ≤ 1000 by omega) (fun c hc => by
    obtain ⟨d, r, hd, hr, rfl⟩ := (hg c).1 hc
    show -1000 ≤ d ∧ d ≤ 1000
    omega)
  have hb : ∃ d r, (-(most : Int) ≤ d ∧ d ≤ most) ∧ (0 ≤ r ∧ r ≤ 3) ∧ bestC x y most st = cellOf x y d st r := by
    rcases i1 with i1 | i1
    · exact ⟨_, _, by omega, by omega, i1⟩
    · obtain ⟨d, r, hd, hr, e⟩ := (hg _).1 i1
      exact ⟨d, r, by omega, hr, e⟩
  obtain ⟨d, r, hd, hr, e⟩ := hb
  refine ⟨d, r, hd, hr, e, fun d' r' hd' hr' => ?_⟩
  rw [← e]
  exact i3 _ ((hg _).2 ⟨d', r', by omega, hr', rfl⟩)
def bestR (x y : List Int) (most st : Nat) : Int × Int × Int × Int × Int × Int :=
  if (bestC x y most st).f3 = 0 then (0, 0, 0, 0, 0, 18) else ((bestC x y most st).f0, (bestC x y most st).f1, (bestC x y most st).f2.f0, (bestC x y most st).f2.f1, (bestC x y most st).f3, 0)
theorem best_ev {x y : List Int} {st : Nat} (hx : str x) (hy : str y) (h1 : 1 ≤ st) {most : Nat} (hm : most ≤ 32) (h2 : st ≤ 256) : Ev (fun k => search_Best.f k x y most st) (bestR x y most st) := by
  refine Ev.congr (fun k => search_Best.f.eq_1 k _ _ _ _) (Ev.bind (grid_ev hx hy h1 hm h2) (evp rfl ?_))
  obtain ⟨t, ht⟩ := gridL_head x y most st (2 * most)
  unfold bestR bestC
  rw [ht]
  dsimp only
  by_cases h : (search_bst (cellOf x y (-(most : Int)) st 0) (cellOf x y (-(most : Int)) st 0 :: t)).f3 = 0
  · simp only [if_pos h]; exact Ev.now _
  · simp only [if_neg h]; exact Ev.now _
end Go.Proofs.Ytpooejjgaobcaaa.SL
