/- Reducing signed numbers gives the elements, and signed numbers are at most half of the modulus. -/
import Derived.Test.YtbeidonfmeengaaFIp
import Derived.Test.YtbeidonfmeengaaFTp
import Derived.Test.YtbeidonfmeengaaPAllx17
set_option linter.unusedVariables false
namespace Go.Proofs.Ytbeidonfmeengaa.Pure
open Go Go.RowKit Go.Proofs.Ytbeidonfmeengaa.PAll Go.Proofs.YtbeidonfmeengaaW.PrintWords Go.Proofs.YtbeidonfmeengaaW.PrintLast RM FM Go.Proofs.Ytbeidonfmeengaa.RL Go.Proofs.Ytbeidonfmeengaa.FL

theorem FourierSigns : fringelaw11_FourierSigns.Pure := by
  intro a l _ _ _ _
  refine Ev.rounds (Ev.congr (fun k => fringelaw11_FourierSigns.f.eq_1 k _ _) (fits11 al ?_))
  rintro p L B rfl rfl _ h _ _
  have hl := h.len
  have hp0 := h.pr.1
  have hle := h.le
  have hsl : (sgn p L).length = L.length := List.length_map _
  have hb : ∀ x ∈ sgn p L, -(p : Int) < 2 * x ∧ 2 * x ≤ p := by
    intro x hx
    simp only [sgn, List.mem_map] at hx
    obtain ⟨y, hy, rfl⟩ := hx
    have := h.lt y hy
    unfold sg
    split <;> omega
  have er := Reduce_ev h.pr h.le (l := sgn p L) (by omega) (fun x hx => by have := hb x hx; omega)
  have e : red p (sgn p L) = cl L := by
    unfold red sgn cl
    rw [List.map_map]
    refine List.map_congr_left fun x hx => ?_
    have := h.lt x hx
    simp only [Function.comp, sg]
    split
    · rw [← Int.add_emod_right, Int.sub_add_cancel]
      exact Int.emod_eq_of_lt (by omega) (by omega)
    · exact Int.emod_eq_of_lt (by omega) (by omega)
  rw [e] at er
  refine Ev.bind (Signed_ev h) (Ev.bind er (evp rfl (evp rfl (Ev.bind (same_ev _ (by rw [cl_length]; omega)) (evp rfl ?_)))))
  dsimp only
  have e0 : (((sgn p L).length : Int) != ((cl L).length : Int)) = false := by rw [cl_length, hsl]; simp
  rw [e0]
  refine Ev.step (fun k => fringelaw11_FourierSigns.j0.eq_2 _ _ _ k) (evn (by decide) ?_)
  have key : ∀ (m i : Nat), i + m = (sgn p L).length → Ev (fun k => fringelaw11_FourierSigns.l0 k p (sgn p L) i) true := by
    intro m
    induction m with
    | zero =>
      intro i hi
      exact Ev.step (fun k => fringelaw11_FourierSigns.l0.eq_2 _ _ _ k) (evn (by omega) al)
    | succ m ih =>
      intro i hi
      have hlt : i < (sgn p L).length := by omega
      have hx := hb _ (List.getElem_mem hlt)
      have e : rd (sgn p L) (i : Int) = (sgn p L)[i] := by simp [rd, List.getD_eq_getElem?_getD, hlt]
      refine Ev.step (fun k => fringelaw11_FourierSigns.l0.eq_2 _ _ _ k) (evp (by omega) (evp (by omega) ?_))
      rw [e, w64 (x := 2 * (sgn p L)[i]) (by omega) (by omega), w64 (x := (-2) * (sgn p L)[i]) (by omega) (by omega), succ1 (by omega)]
      exact evn (by omega) (evn (by omega) (ih (i + 1) (by omega)))
  exact key _ 0 (Nat.zero_add _)
end Go.Proofs.Ytbeidonfmeengaa.Pure
