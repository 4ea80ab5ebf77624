import Derived.Test.YtajdbccapandgaaLG
import Derived.Test.YtajdbccapandgaaPAllx8
set_option linter.unusedVariables false
set_option linter.unusedSectionVars false
namespace Go.Proofs.Ytajdbccapandgaa.LG
open Go Go.RowKit Go.Proofs.Ytajdbccapandgaa.PAll Go.Proofs.YtajdbccapandgaaW.PrintWords Go.Proofs.YtajdbccapandgaaW.PrintLast SM

theorem Digit_eq (x : Int) : ∃ d, fringeref13_Digit.f x = some d ∧ (d < 0 ↔ ¬ sample_okd x = true) := by
  rw [okd_iff]
  unfold fringeref13_Digit.f okd
  by_cases h0 : x = 0
  · exact ⟨0, if_pos h0, by omega⟩
  rw [if_neg h0]
  by_cases h1 : x = -3
  · exact ⟨1, if_pos h1, by omega⟩
  rw [if_neg h1]
  by_cases h2 : x = -1
  · exact ⟨2, if_pos h2, by omega⟩
  rw [if_neg h2]
  by_cases h3 : x = 1
  · exact ⟨3, if_pos h3, by omega⟩
  rw [if_neg h3]
  by_cases h4 : x = 3
  · exact ⟨4, if_pos h4, by omega⟩
  rw [if_neg h4]
  exact ⟨-1, rfl, by omega⟩
theorem refCheck_loop (l : List Int) (hl : l.length ≤ 256) : ∀ (m i : Nat), i + m = l.length → Ev (fun k => fringeref13_Check.l0 k l i) (if (l.drop i).all sample_okd then 0 else 8) := by
  intro m
  induction m with
  | zero =>
    intro i hi
    refine Ev.step (fun k => fringeref13_Check.l0.eq_2 _ _ k) ?_
    rw [List.drop_eq_nil_of_le (by omega)]
    exact evn (by omega) (Ev.now 0)
  | succ m ih =>
    intro i hi
    have hlt : i < l.length := by omega
    refine Ev.step (fun k => fringeref13_Check.l0.eq_2 _ _ k) ?_
    refine evp (by omega) (evp (by omega) ?_)
    obtain ⟨d, e, hd⟩ := Digit_eq (rd l i)
    rw [e, succ1 (by omega)]
    have hr : rd l i = l[i] := by rw [rdD]; simp [hlt]
    rw [hr] at hd
    rw [List.drop_eq_getElem_cons hlt, List.all_cons]
    refine Ev.bind (Ev.now d) ?_
    by_cases hneg : d < 0
    · have := hd.1 hneg
      rw [Bool.eq_false_iff.2 this]
      exact evp hneg (Ev.now 8)
    · have : sample_okd l[i] = true := by
        rcases Bool.eq_false_or_eq_true (sample_okd l[i]) with h | h
        · exact h
        · exact absurd (hd.2 (by rw [h]; decide)) hneg
      rw [this]
      exact evn hneg (ih (i + 1) (by omega))
theorem refCheck_ev (l : List Int) : Ev (fun k => fringeref13_Check.f k l) (chk l) := by
  refine Ev.congr (fun k => fringeref13_Check.f.eq_1 k _) ?_
  unfold chk
  by_cases h : (l.length : Int) > 256
  · rw [if_pos h]; exact evp h (Ev.now 4)
  · rw [if_neg h]; exact evn h (refCheck_loop l (by omega) l.length 0 (Nat.zero_add _))
end Go.Proofs.Ytajdbccapandgaa.LG
