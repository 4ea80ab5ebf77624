/- The inverse transform of the transform is the list, and the transform of the inverse transform, too; and the first element of the transform is the sum of the list. -/
import Derived.Test.YtbeidonfmeengaaFIp
import Derived.Test.YtbeidonfmeengaaPAllx13
set_option linter.unusedVariables false
namespace Go.Proofs.Ytbeidonfmeengaa.Pure
open Go Go.RowKit Go.Proofs.Ytbeidonfmeengaa.PAll Go.Proofs.YtbeidonfmeengaaW.PrintWords Go.Proofs.YtbeidonfmeengaaW.PrintLast RM FM Go.Proofs.Ytbeidonfmeengaa.RL Go.Proofs.Ytbeidonfmeengaa.FL

theorem FourierInverse : fringelaw11_FourierInverse.Pure := by
  intro a l _ _ _ _
  refine Ev.rounds (Ev.congr (fun k => fringelaw11_FourierInverse.f.eq_1 k _ _) (fits11 al ?_))
  rintro p L B rfl rfl _ h _ _
  have hl := h.len
  have hpos := h.pos
  have hp0 := h.pr.1
  have e1 := Back_ev (Fit.fwd h (rt p L.length))
  rw [bwd_fwd h] at e1
  have e2 := forward_ev (Fit.bwd h)
  rw [bwd_length h, fwd_bwd h] at e2
  refine Ev.bind (forward_ev h) (Ev.bind e1 (Ev.bind (Back_ev h) (Ev.bind e2 ?_)))
  have key : ∀ (m i : Nat), i + m = L.length → Ev (fun k => fringelaw11_FourierInverse.l0 k p (cl L) (cl (fwd p (rt p L.length) L)) 0 (cl L) 0 0 (cl L) 0 ((S i (at_ L) % p : Nat) : Int) i) true := by
    intro m
    induction m with
    | zero =>
      intro i hi
      have : i = L.length := by omega
      subst this
      refine Ev.step (fun k => fringelaw11_FourierInverse.l0.eq_2 _ _ _ _ _ _ _ _ _ _ _ k) (evn (by rw [cl_length]; omega) (evp rfl (evp rfl (evp rfl (evp rfl (Ev.bind (same_ev (cl L) (by rw [cl_length]; omega)) (evp rfl (Ev.bind (same_ev (cl L) (by rw [cl_length]; omega)) (evp rfl (evp (by rw [cl_length, cl_length, fwd_length]) (evp (by rw [cl_length, fwd_length]; omega) (evp ?_ al))))))))))))
      rw [show (0 : Int) = ((0 : Nat) : Int) from rfl, cl_get, fwd_sum (by omega)]
    | succ m ih =>
      intro i hi
      have ih := ih (i + 1) (by omega)
      have hs := Nat.mod_lt (S i (at_ L)) (show 0 < p by omega)
      have hx := at_lt h.lt (by omega) i
      have hle := h.le
      refine Ev.step (fun k => fringelaw11_FourierInverse.l0.eq_2 _ _ _ _ _ _ _ _ _ _ _ k) (evp (by rw [cl_length]; omega) (evp (by omega) (evn (by omega) ?_)))
      rw [cl_get, tm h.pr h.le (b := S i (at_ L) % p + at_ L i) (by simp) (by omega), succ1 (by omega)]
      have e : (S i (at_ L) % p + at_ L i) % p = S (i + 1) (at_ L) % p := by rw [S_succ]; exact amod (mm _ _) rfl
      rw [e]
      exact ih
  exact key L.length 0 (Nat.zero_add _)
end Go.Proofs.Ytbeidonfmeengaa.Pure
