/- The transform of a turned list is the transform phased by the same, turning back gives the list, and turning is convolving with a list that has a single 1. -/
import Derived.Test.YtbeidonfmeengaaFIp
import Derived.Test.YtbeidonfmeengaaFTp
import Derived.Test.YtbeidonfmeengaaPAllx16
set_option linter.unusedVariables false
namespace Go.Proofs.Ytbeidonfmeengaa.Pure
open Go Go.RowKit Go.Proofs.Ytbeidonfmeengaa.PAll Go.Proofs.YtbeidonfmeengaaW.PrintWords Go.Proofs.YtbeidonfmeengaaW.PrintLast RM FM Go.Proofs.Ytbeidonfmeengaa.RL Go.Proofs.Ytbeidonfmeengaa.FL

theorem fwd_turn_eq {p d : Nat} {L : List Nat} (h : Fit p L) (hd : d ≤ L.length) : FM.fwd p (rt p L.length) (turn d L) = phase p (rt p L.length) d (FM.fwd p (rt p L.length) L) := by
  refine eq_of_at (by rw [fwd_length, turn_length, phase, tab_length, fwd_length]) fun i hi => ?_
  rw [fwd_length, turn_length] at hi
  rw [fwd_turn h.pr.1 (fit_ord h) hd hi, phase, at_tab _ (by rw [fwd_length]; exact hi)]
  exact mmod rfl (mm _ _).symm
def single (n d : Nat) : List Nat := tab n fun k => if k = d then 1 else 0
theorem conv_single {p d : Nat} {L : List Nat} (h : Fit p L) (hd : d < L.length) : conv p L (single L.length d) = turn d L := by
  refine eq_of_at (by rw [conv_length, turn_length]) fun k hk => ?_
  rw [conv_length] at hk
  have hp0 := h.pr.1
  rw [conv, at_tab _ hk, turn, at_tab _ hk]
  have hm := Nat.mod_lt (k + L.length - d) (show 0 < L.length by omega)
  rw [S_single (j0 := (k + L.length - d) % L.length) hm]
  · rw [single, at_tab _ (Nat.mod_lt _ (by omega))]
    have e : (k + L.length - (k + L.length - d) % L.length) % L.length = d := by
      have h1 := back_mod (n := L.length) (d := (k + L.length - d) % L.length) (e := 0) (j := k) (by omega) (by omega)
      by_cases c : d ≤ k
      · rw [show k + L.length - d = (k - d) + L.length by omega, Nat.add_mod_right, Nat.mod_eq_of_lt (show k - d < L.length by omega)]
        by_cases c2 : k - d = 0
        · rw [c2, Nat.sub_zero, Nat.add_mod_right, Nat.mod_eq_of_lt hk]; omega
        · rw [show k + L.length - (k - d) = d + L.length by omega, Nat.add_mod_right, Nat.mod_eq_of_lt hd]
      · rw [Nat.mod_eq_of_lt (show k + L.length - d < L.length by omega), show k + L.length - (k + L.length - d) = d by omega, Nat.mod_eq_of_lt hd]
    rw [e, if_pos rfl, Nat.mul_one, Nat.mod_eq_of_lt (at_lt h.lt (by omega) _)]
  · intro j hj hne
    rw [single, at_tab _ (Nat.mod_lt _ (by omega)), if_neg, Nat.mul_zero]
    intro he
    refine hne ?_
    have h1 := shift_mod (n := L.length) (k := k) (i := j) (by omega)
    rw [he, Nat.mod_eq_of_lt hk] at h1
    by_cases c : d + j < L.length
    · rw [Nat.mod_eq_of_lt c] at h1
      rw [show k + L.length - d = j + L.length by omega, Nat.add_mod_right, Nat.mod_eq_of_lt hj]
    · rw [mod_sub' (a := d + j) (by omega) (by omega)] at h1
      rw [Nat.mod_eq_of_lt (by omega)]
      omega
theorem rmd_neg (d : Int) {n : Nat} (hn : 1 ≤ n) : (rmd d n + rmd (-d) n) % n = 0 := by
  have h1 := rmd_cast d hn
  have h2 := rmd_cast (-d) hn
  have h3 : (((rmd d n + rmd (-d) n) % n : Nat) : Int) = 0 := by
    rw [Int.natCast_emod, Int.natCast_add, h1, h2, ← Int.add_emod, Int.add_right_neg]
    rfl
  omega
theorem FourierShifts : fringelaw11_FourierShifts.Pure := by
  intro a l d _ _ _ _ _
  have jt : ∀ (a : Int) (l : List Int), Ev (fun k => fringelaw11_FourierShifts.j0 k a l d true) true := fun a l => Ev.step (fun k => fringelaw11_FourierShifts.j0.eq_2 _ _ _ _ k) (evp rfl al)
  refine Ev.rounds (Ev.congr (fun k => fringelaw11_FourierShifts.f.eq_1 k _ _ _) (fits11 (jt _ _) ?_))
  rintro p L B rfl rfl _ h _ _
  have hl := h.len
  have hpos := h.pos
  have hp0 := h.pr.1
  by_cases c1 : d < (-1000000)
  · exact evp c1 (jt _ _)
  by_cases c2 : d > 1000000
  · rw [decide_eq_true c2]; exact evn c1 (jt _ _)
  rw [decide_eq_false c2]
  refine evn c1 (Ev.step (fun k => fringelaw11_FourierShifts.j0.eq_2 _ _ _ _ k) (evn (by decide) ?_))
  have hr := rmd_lt d hpos
  have hr2 := rmd_lt (-d) hpos
  have hT : Fit p (turn (rmd d L.length) L) := Fit.other h (turn_length _ _) (by
    intro x hx
    simp only [turn, tab, List.mem_map] at hx
    obtain ⟨i, _, rfl⟩ := hx
    exact at_lt h.lt (by omega) _)
  have e1 := forward_ev hT
  rw [turn_length, fwd_turn_eq h (by omega)] at e1
  have e2 := Phase_ev (Fit.fwd h (rt p L.length)) d
  rw [fwd_length] at e2
  have e3 := Turn_ev hT (-d)
  rw [turn_length, turn_turn (by omega) (by omega) (rmd_neg d hpos)] at e3
  have hS : Fit p (single L.length (rmd d L.length)) := Fit.other h (tab_length _ _) (by
    intro x hx
    simp only [single, tab, List.mem_map] at hx
    obtain ⟨i, _, rfl⟩ := hx
    split <;> omega)
  have e4 := convolve_ev h hS (tab_length _ _).symm
  rw [conv_single h hr] at e4
  refine Ev.bind (Turn_ev h d) (Ev.bind e1 (Ev.bind (forward_ev h) (Ev.bind e2 ?_)))
  rw [w64 (x := -d) (by omega) (by omega), cl_length, tmod_rmd d hpos (by omega)]
  have hset : (List.replicate (L.length : Int).toNat (0 : Int)).set (((rmd d L.length : Nat) : Int)).toNat 1 = cl (single L.length (rmd d L.length)) := by
    rw [Int.toNat_natCast, Int.toNat_natCast, cl_zeros, show (1 : Int) = ((1 : Nat) : Int) from rfl, cl_set]
    rfl
  refine Ev.bind e3 (evp (by omega) (evp (by omega) (Ev.bind (Ev.now _) (evn (by omega) (evp (by omega) (evp (by rw [List.length_replicate]; omega) ?_))))))
  rw [hset]
  have s1 := same_ev (cl (phase p (rt p L.length) (rmd d L.length) (FM.fwd p (rt p L.length) L))) (by rw [cl_length, phase, tab_length, fwd_length]; omega)
  have s2 := same_ev (cl L) (by rw [cl_length]; omega)
  have s3 := same_ev (cl (turn (rmd d L.length) L)) (by rw [cl_length, turn_length]; omega)
  exact Ev.bind e4 (evp rfl (evp rfl (evp rfl (evp rfl (Ev.bind s1 (evp rfl (evp rfl (Ev.bind s2 (evp rfl (evp rfl (Ev.bind s3 (evp rfl al))))))))))))
end Go.Proofs.Ytbeidonfmeengaa.Pure
