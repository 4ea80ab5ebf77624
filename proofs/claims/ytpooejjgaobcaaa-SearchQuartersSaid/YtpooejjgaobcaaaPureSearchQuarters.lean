/- Turning by q and then by p quarters is turning by both, and four quarters change nothing, for every input. -/
import Derived.Test.YtpooejjgaobcaaaSL
import Derived.Test.YtpooejjgaobcaaaPAllx33
import Derived.Test.YtpooejjgaobcaaaPAllx5
set_option linter.unusedVariables false
namespace Go.Proofs.Ytpooejjgaobcaaa.Pure
open Go Go.RowKit Go.Proofs.Ytpooejjgaobcaaa.PAll Go.Proofs.YtpooejjgaobcaaaW.PrintWords Go.Proofs.YtpooejjgaobcaaaW.PrintLast SM SL

theorem turn_ok {a b : Int} (q : Int) (ha : -1000000000 ≤ a ∧ a ≤ 1000000000) (hb : -1000000000 ≤ b ∧ b ≤ 1000000000) : Ev (fun k => search_Turn.f k a b q) ((Tz q a b).1, (Tz q a b).2, 0) :=
  Ev.congr (fun k => search_Turn.f.eq_1 k _ _ _) (evn (by omega) (evn (by omega) (evn (by omega) (evn (by omega) (Ev.bind (turned_ev q (by omega) (by omega)) (Ev.now _))))))
theorem turn_out {a b : Int} (q : Int) (h : ¬ ((-1000000000 ≤ a ∧ a ≤ 1000000000) ∧ -1000000000 ≤ b ∧ b ≤ 1000000000)) : Ev (fun k => search_Turn.f k a b q) (0, 0, 16) := by
  refine Ev.congr (fun k => search_Turn.f.eq_1 k _ _ _) ?_
  by_cases c1 : a < -1000000000
  · exact evp c1 (Ev.now _)
  by_cases c2 : a > 1000000000
  · exact evn c1 (evp c2 (Ev.now _))
  by_cases c3 : b < -1000000000
  · exact evn c1 (evn c2 (evp c3 (Ev.now _)))
  exact evn c1 (evn c2 (evn c3 (evp (by omega) (Ev.now _))))
theorem neg_lt_tmod (s : Int) {p : Int} (hp : 0 < p) : -p < Int.tmod s p := by
  have h1 := Int.tmod_lt_of_pos (-s) hp
  rw [Int.neg_tmod] at h1
  omega
theorem Tz_mod {q p : Int} (a b : Int) (h : q % 4 = p % 4) : Tz q a b = Tz p a b := by unfold Tz; rw [h]
theorem Tz_add (q p a b : Int) : Tz p (Tz q a b).1 (Tz q a b).2 = Tz (q + p) a b := by
  have h1 : q % 4 = 0 ∨ q % 4 = 1 ∨ q % 4 = 2 ∨ q % 4 = 3 := by omega
  have h2 : p % 4 = 0 ∨ p % 4 = 1 ∨ p % 4 = 2 ∨ p % 4 = 3 := by omega
  have h3 : (q + p) % 4 = (q % 4 + p % 4) % 4 := Int.add_emod q p 4
  unfold Tz
  rw [h3]
  rcases h1 with h1 | h1 | h1 | h1 <;> rcases h2 with h2 | h2 | h2 | h2 <;> rw [h1, h2] <;> simp
theorem SearchQuarters : fringelaw20_SearchQuarters.Pure := by
  intro a b q p _ _ _ _
  refine Ev.rounds (Ev.congr (fun k => fringelaw20_SearchQuarters.f.eq_1 k _ _ _ _) ?_)
  have jt : Ev (fun k => fringelaw20_SearchQuarters.j0 k q p true true a b) true := Ev.step (fun k => fringelaw20_SearchQuarters.j0.eq_2 _ _ _ _ _ _ k) (evp rfl (Ev.now _))
  refine Ev.bind (g := fun k => fringelaw20_alive.f) (a := true) (Ev.now _) ?_
  by_cases c1 : q < -1000
  · exact evp c1 jt
  by_cases c2 : q > 1000
  · exact evn c1 (evp c2 jt)
  by_cases c3 : p < -1000
  · exact evn c1 (evn c2 (evp c3 jt))
  by_cases c4 : p > 1000
  · exact evn c1 (evn c2 (evn c3 (evp c4 jt)))
  refine evn c1 (evn c2 (evn c3 (evn c4 (Ev.step (fun k => fringelaw20_SearchQuarters.j0.eq_2 _ _ _ _ _ _ k) (evn (by decide) ?_)))))
  by_cases hb : (-1000000000 ≤ a ∧ a ≤ 1000000000) ∧ -1000000000 ≤ b ∧ b ≤ 1000000000
  · obtain ⟨ha, hb⟩ := hb
    obtain ⟨b1, b2⟩ := Tz_bound (B := 1000000000) q ha hb
    have m1 : Int.tmod q 4 = q - 4 * Int.tdiv q 4 := Int.tmod_def q 4
    have m2 : -4 < Int.tmod q 4 ∧ Int.tmod q 4 < 4 := ⟨neg_lt_tmod q (by decide), Int.tmod_lt_of_pos q (by decide)⟩
    have e1 : wrap64 (q + p) = q + p := w64 (by omega) (by omega)
    have e2 : wrap64 (4 - Int.tmod q 4) = 4 - Int.tmod q 4 := w64 (by omega) (by omega)
    rw [e1, e2]
    refine Ev.bind (turn_ok q ha hb) (evp rfl (Ev.bind (turn_ok p b1 b2) (Ev.bind (turn_ok (q + p) ha hb) (Ev.bind (turn_ok _ b1 b2) (evp rfl (evp rfl (evp rfl (evp rfl ?_))))))))
    dsimp only
    rw [Tz_add, Tz_add]
    refine evp (by simp) ?_
    have e3 : Tz (q + (4 - Int.tmod q 4)) a b = (a, b) := by
      rw [Tz_mod (p := 0) a b (by omega)]; rfl
    rw [e3]
    simp only [beq_self_eq_true, Bool.and_true]
    exact Ev.now _
  · exact Ev.bind (turn_out q hb) (evn (by decide) (evp rfl (evp rfl (Ev.now _))))
end Go.Proofs.Ytpooejjgaobcaaa.Pure
