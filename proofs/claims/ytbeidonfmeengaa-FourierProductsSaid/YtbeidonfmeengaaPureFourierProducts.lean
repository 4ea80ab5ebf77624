/- The transform of a convolution has the products of both transforms, the order of both doesn't matter, and transforms add. -/
import Derived.Test.YtbeidonfmeengaaFIp
import Derived.Test.YtbeidonfmeengaaPAllx15
set_option linter.unusedVariables false
namespace Go.Proofs.Ytbeidonfmeengaa.Pure
open Go Go.RowKit Go.Proofs.Ytbeidonfmeengaa.PAll Go.Proofs.YtbeidonfmeengaaW.PrintWords Go.Proofs.YtbeidonfmeengaaW.PrintLast RM FM Go.Proofs.Ytbeidonfmeengaa.RL Go.Proofs.Ytbeidonfmeengaa.FL

theorem FourierProducts : fringelaw11_FourierProducts.Pure := by
  intro a l m _ _ _ _ _ _ _
  refine Ev.rounds (Ev.congr (fun k => fringelaw11_FourierProducts.f.eq_1 k _ _ _) (fits11 al ?_))
  rintro p A B rfl rfl rfl hA hB hl
  have hlen := hA.len
  have hpos := hA.pos
  have hp0 := hA.pr.1
  have hle := hA.le
  have ec := convolve_ev hB hA hl.symm
  rw [conv_comm hB hA hl.symm] at ec
  have ef := forward_ev hB
  rw [← hl] at ef
  refine Ev.bind (forward_ev hA) (Ev.bind ef (Ev.bind (convolve_ev hA hB hl) (Ev.bind ec (evp rfl (evp rfl (evp rfl (evp rfl (Ev.bind (same_ev _ (by rw [cl_length, conv_length]; omega)) (evp rfl (evp (by rw [cl_length, cl_length, fwd_length]) ?_))))))))))
  dsimp only
  have e0 : (((cl (fwd p (rt p A.length) B)).length : Int) != ((cl A).length : Int)) = false := by rw [cl_length, cl_length, fwd_length, hl]; simp
  rw [e0]
  have ez := forward_ev (Fit.conv hA B)
  rw [conv_length, fwd_conv_eq hA hl] at ez
  refine Ev.step (fun k => fringelaw11_FourierProducts.j0.eq_2 _ _ _ _ _ _ _ k) (evn (by decide) (Ev.bind ez ?_))
  have es := forward_ev (Fit.add2 hA B)
  have hal : (add2 p A B).length = A.length := tab_length _ _
  rw [hal, fwd_add hl] at es
  have key : ∀ (m i : Nat), i + m = A.length → Ev (fun k => fringelaw11_FourierProducts.l0 k p (cl A) (cl B) (cl (fwd p (rt p A.length) A)) (cl (fwd p (rt p A.length) B)) (cl (prod2 p (fwd p (rt p A.length) A) (fwd p (rt p A.length) B))) 0
      (cl (tab i fun k => (at_ A k + at_ B k) % p)) (cl (tab i fun k => (at_ (fwd p (rt p A.length) A) k + at_ (fwd p (rt p A.length) B) k) % p)) (cl (tab i fun k => at_ (fwd p (rt p A.length) A) k * at_ (fwd p (rt p A.length) B) k % p)) i) true := by
    intro m
    induction m with
    | zero =>
      intro i hi
      have : i = A.length := by omega
      subst this
      have q1 : (tab A.length fun k => (at_ A k + at_ B k) % p) = add2 p A B := rfl
      have q2 : (tab A.length fun k => (at_ (fwd p (rt p A.length) A) k + at_ (fwd p (rt p A.length) B) k) % p) = add2 p (fwd p (rt p A.length) A) (fwd p (rt p A.length) B) := by unfold add2; rw [fwd_length]
      have q3 : (tab A.length fun k => at_ (fwd p (rt p A.length) A) k * at_ (fwd p (rt p A.length) B) k % p) = prod2 p (fwd p (rt p A.length) A) (fwd p (rt p A.length) B) := by unfold prod2; rw [fwd_length]
      rw [q1, q2, q3]
      exact Ev.step (fun k => fringelaw11_FourierProducts.l0.eq_2 _ _ _ _ _ _ _ _ _ _ _ k) (evn (by rw [cl_length]; omega) (Ev.bind es (evp rfl (Ev.bind (same_ev _ (by rw [cl_length, prod2, tab_length, fwd_length]; omega)) (evp rfl (evp rfl (Ev.bind (same_ev _ (by rw [cl_length, add2, tab_length, fwd_length]; omega)) (evp rfl al))))))))
    | succ m ih =>
      intro i hi
      have ih := ih (i + 1) (by omega)
      have x1 := at_lt hA.lt (by omega) i
      have x2 := at_lt hB.lt (by omega) i
      have x3 := at_lt (fwd_lt (p := p) (by omega) (w := rt p A.length) A) (by omega) i
      have x4 := at_lt (fwd_lt (p := p) (by omega) (w := rt p A.length) B) (by omega) i
      rw [tab_succ, tab_succ, tab_succ, cl_append, cl_append, cl_append] at ih
      refine Ev.step (fun k => fringelaw11_FourierProducts.l0.eq_2 _ _ _ _ _ _ _ _ _ _ _ k) (evp (by rw [cl_length]; omega) (evp (by omega) (evp (by rw [cl_length, fwd_length]; omega) ?_)))
      rw [cl_get, cl_get, cl_get, cl_get, tm hA.pr hA.le (b := at_ A i + at_ B i) (by simp) (by omega), tm hA.pr hA.le (b := at_ (fwd p (rt p A.length) A) i + at_ (fwd p (rt p A.length) B) i) (by simp) (by omega), tm hA.pr hA.le (b := at_ (fwd p (rt p A.length) A) i * at_ (fwd p (rt p A.length) B) i) (by simp) (Nat.le_trans (mul_lt x3 x4 hle) (by decide)), succ1 (by omega)]
      refine evn (by omega) (evn (by omega) (evp (by rw [cl_length, fwd_length]; omega) (evn (by omega) (evn (by omega) (evp (by rw [cl_length]; omega) (evn (by omega) (evp (by rw [cl_length, tab_length]; omega) (evp (by rw [cl_length, tab_length]; omega) (evp (by rw [cl_length, tab_length]; omega) ?_)))))))))
      exact ih
  exact key A.length 0 (Nat.zero_add _)
end Go.Proofs.Ytbeidonfmeengaa.Pure
