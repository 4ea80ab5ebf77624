import Derived.Test.YtajdbccapandgaaLT
import Derived.Test.YtajdbccapandgaaLF
import Derived.Test.YtajdbccapandgaaPAllx16
import Derived.Test.YtajdbccapandgaaPAllx24
set_option linter.unusedVariables false
set_option linter.unusedSectionVars false
namespace Go.Proofs.Ytajdbccapandgaa.LG
open Go Go.RowKit Go.Proofs.Ytajdbccapandgaa.PAll Go.Proofs.YtajdbccapandgaaW.PrintWords Go.Proofs.YtajdbccapandgaaW.PrintLast SM

def okE (e : SL) : Prop := 0 ≤ e.f1 ∧ e.f1 ≤ 256 ∧ -9 * e.f1 ≤ e.f0 ∧ e.f0 ≤ 9 * e.f1 ∧ (e.f0 - e.f1) % 2 = 0
theorem lagE_ok {x y : List Int} (hx : str x) (hy : str y) (d : Int) : okE (lagE x y d x.length) := by
  have h1 := lag_ok hx hy d x.length
  have h2 := cnt_bound x y d x.length
  have h3 := hx.1
  unfold okE lagE
  dsimp only
  omega
theorem tmod2 (a : Int) : Int.tmod a 2 = 0 ↔ a % 2 = 0 := by
  have h1 := Int.mul_tdiv_add_tmod a 2
  have h2 := Int.tmod_lt_of_pos a (show (0 : Int) < 2 by decide)
  have h3 := Int.tmod_lt_of_pos (-a) (show (0 : Int) < 2 by decide)
  rw [Int.neg_tmod] at h3
  omega
theorem bad_ok {e : SL} (h : okE e) : lag_bad e = false := by
  unfold okE at h
  unfold lag_bad lag_Check_1.f
  rw [w64 (x := 9 * e.f1) (by omega) (by omega), w64 (x := (-9) * e.f1) (by omega) (by omega), w64 (x := e.f0 - e.f1) (by omega) (by omega)]
  rw [if_neg (by omega), if_neg (by omega), if_neg (by omega), if_neg (by omega)]
  have : Int.tmod (e.f0 - e.f1) 2 = 0 := (tmod2 _).2 h.2.2.2.2
  simp [this]
theorem Check_ok {l : List SL} (h : ∀ e ∈ l, okE e) (h1 : l.length % 2 = 1) (h2 : l.length ≤ 511) : lag_Check.f l = some 0 := by
  unfold lag_Check.f
  rw [if_neg (by omega), if_neg (by omega)]
  have : l.any lag_bad = false := by
    rw [List.any_eq_false]
    intro e he
    rw [bad_ok (h e he)]
    decide
  rw [this]
  rfl
theorem rCheck_loop {l : List SL} (h : ∀ e ∈ l, okE e) (h2 : l.length ≤ 511) : ∀ (m i : Nat), i + m = l.length → Ev (fun k => fringeref16_Check.l0 k l i) 0 := by
  intro m
  induction m with
  | zero =>
    intro i hi
    exact Ev.step (fun k => fringeref16_Check.l0.eq_2 _ _ k) (evn (by omega) (Ev.now _))
  | succ m ih =>
    intro i hi
    have ih := ih (i + 1) (by omega)
    have hlt : i < l.length := by omega
    have he := rdL l i l[i] (List.getElem?_eq_getElem hlt)
    have ho := h _ (List.getElem_mem hlt)
    refine Ev.step (fun k => fringeref16_Check.l0.eq_2 _ _ k) ?_
    rw [he, succ1 (by omega)]
    generalize l[i] = e at *
    unfold okE at ho
    rw [w64 (x := 9 * e.f1) (by omega) (by omega), w64 (x := (-9) * e.f1) (by omega) (by omega)]
    refine evp (by omega) (evp (by omega) (evn (by omega) (evn (by omega) (evn (by omega) (evn (by omega) (Ev.bind (Ev.now _) (Ev.bind (Ev.now _) (evn ?_ ih))))))))
    have hp : (Int.tmod e.f0 2 == 0) = (Int.tmod e.f1 2 == 0) := by
      rw [Bool.eq_iff_iff, beq_iff_eq, beq_iff_eq, tmod2, tmod2]
      omega
    rw [hp]
    simp
theorem rCheck_ok {l : List SL} (h : ∀ e ∈ l, okE e) (h1 : l.length % 2 = 1) (h2 : l.length ≤ 511) : Ev (fun k => fringeref16_Check.f k l) 0 := by
  refine Ev.congr (fun k => fringeref16_Check.f.eq_1 k _) (evn (by omega) (Ev.bind (Ev.now _) (evn ?_ (rCheck_loop h h2 l.length 0 (Nat.zero_add _)))))
  rw [beq_iff_eq, tmod2]
  omega
theorem lagL_ok {x y : List Int} (hx : str x) (hy : str y) (most : Nat) : ∀ n, ∀ e ∈ lagL x y most n, okE e
  | 0, e, h => by simp [lagL] at h
  | n + 1, e, h => by
    rw [lagL, List.mem_append] at h
    rcases h with h | h
    · exact lagL_ok hx hy most n e h
    · rw [List.mem_singleton] at h
      subst h
      exact lagE_ok hx hy _
end Go.Proofs.Ytajdbccapandgaa.LG
