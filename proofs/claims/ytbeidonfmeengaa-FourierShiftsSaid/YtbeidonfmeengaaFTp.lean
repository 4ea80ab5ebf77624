/- Turns, phases and signed numbers: what the program's and the reference's loops come to, for every input. -/
import Derived.Test.YtbeidonfmeengaaFCp
import Derived.Test.YtbeidonfmeengaaPAllx5
import Derived.Test.YtbeidonfmeengaaPAllx10
import Derived.Test.YtbeidonfmeengaaPAllx11
set_option linter.unusedVariables false
set_option linter.unusedSimpArgs false
set_option linter.unusedSectionVars false
namespace Go.Proofs.Ytbeidonfmeengaa.FL
open Go Go.RowKit Go.Proofs.Ytbeidonfmeengaa.PAll Go.Proofs.YtbeidonfmeengaaW.PrintWords Go.Proofs.YtbeidonfmeengaaW.PrintLast RM FM Go.Proofs.Ytbeidonfmeengaa.RL

/-- A number's remainder. -/
def rmd (d : Int) (n : Nat) : Nat := (d % (n : Int)).toNat
theorem rmd_lt (d : Int) {n : Nat} (hn : 1 ≤ n) : rmd d n < n := by
  have := Int.emod_lt_of_pos d (show (0 : Int) < n by omega)
  unfold rmd
  omega
theorem rmd_cast (d : Int) {n : Nat} (hn : 1 ≤ n) : ((rmd d n : Nat) : Int) = d % (n : Int) := by
  have := Int.emod_nonneg d (show (n : Int) ≠ 0 by omega)
  unfold rmd
  omega
theorem tmod_rmd (d : Int) {n : Nat} (hn : 1 ≤ n) (hn2 : n ≤ 1000000) : Int.tmod (wrap64 (Int.tmod d (n : Int) + (n : Int))) (n : Int) = ((rmd d n : Nat) : Int) := by
  have hb : (0 : Int) < n := by omega
  have e1 := Int.mul_tdiv_add_tmod d n
  have e2 := Int.tmod_lt_of_pos d hb
  have e3 := Int.tmod_lt_of_pos (-d) hb
  rw [Int.neg_tmod] at e3
  rw [w64 (by omega) (by omega), Int.tmod_eq_emod_of_nonneg (by omega), rmd_cast d hn, Int.add_emod_right]
  conv => rhs; rw [← e1, Int.add_comm, Int.add_mul_emod_self_left]
theorem at_rmd {d : Int} {n : Nat} (hn : 1 ≤ n) (hn2 : n ≤ 1000000) (h : (Lit.int .i64 d).wf = true) : fringeref11_at.f d n = some ((rmd d n : Nat) : Int) := by
  have hw := wf64 h
  have hb : (0 : Int) < n := by omega
  have e1 := Int.mul_tdiv_add_tmod d n
  have e2 := Int.tmod_lt_of_pos d hb
  have e3 := Int.tmod_lt_of_pos (-d) hb
  rw [Int.neg_tmod] at e3
  have e4 : d % (n : Int) = (Int.tmod d n) % (n : Int) := by conv => lhs; rw [← e1, Int.add_comm, Int.add_mul_emod_self_left]
  unfold fringeref11_at.f
  rw [if_neg (by omega), rmd_cast d hn, e4]
  by_cases c : Int.tmod d n < 0
  · rw [if_pos c, w64 (by omega) (by omega)]
    congr 1
    rw [← Int.add_emod_right]
    exact (Int.emod_eq_of_lt (by omega) (by omega)).symm
  · rw [if_neg c]
    congr 1
    exact (Int.emod_eq_of_lt (by omega) (by omega)).symm
/-! turns -/
theorem at_drop_take (L : List Nat) {m i : Nat} (hm : m ≤ L.length) (hi : i < L.length) : at_ (L.drop m ++ L.take m) i = at_ L ((i + m) % L.length) := by
  unfold at_
  simp only [List.getD_eq_getElem?_getD]
  by_cases c : i + m < L.length
  · rw [Nat.mod_eq_of_lt c, List.getElem?_append_left (by rw [List.length_drop]; omega), List.getElem?_drop, Nat.add_comm m i]
  · rw [mod_sub' (a := i + m) (by omega) (by omega), List.getElem?_append_right (by rw [List.length_drop]; omega), List.length_drop, show i - (L.length - m) = i + m - L.length by omega, List.getElem?_take_of_lt (by omega)]
theorem turn_eq (L : List Nat) {d : Nat} (hd : d < L.length) : L.drop (L.length - d) ++ L.take (L.length - d) = turn d L := by
  refine eq_of_at (by rw [turn_length, List.length_append, List.length_drop, List.length_take]; omega) fun i hi => ?_
  have hi2 : i < L.length := by rw [List.length_append, List.length_drop, List.length_take] at hi; omega
  rw [at_drop_take L (by omega) hi2, turn, at_tab _ hi2, show i + (L.length - d) = i + L.length - d by omega]
section
variable {p : Nat} {L : List Nat} (h : Fit p L)
include h
theorem Turn_ev (d : Int) : Ev (fun k => fourier_Turn.f k p (cl L) d) (cl (turn (rmd d L.length) L), 0) := by
  have hl := h.len
  have hpos := h.pos
  have hr := rmd_lt d hpos
  refine Ev.congr (fun k => fourier_Turn.f.eq_1 k _ _ _) (Ev.bind (check_ok h).1 (evp rfl (evp (by rw [cl_length]; omega) ?_)))
  unfold fourier_Turn.g
  rw [cl_length, if_neg (by omega), tmod_rmd d hpos (by omega), Int.toNat_natCast]
  have e : (cl L).drop (L.length - rmd d L.length) ++ (cl L).take (L.length - rmd d L.length) = cl (turn (rmd d L.length) L) := by
    rw [← turn_eq L hr, cl_append]
    simp [cl, List.map_drop, List.map_take]
  rw [e]
  exact Ev.now _
theorem rTurn_loop (d : Int) (hd : (Lit.int .i64 d).wf = true) : ∀ (m k : Nat), k + m = L.length → Ev (fun f => fringeref11_Turn.l0 f (cl L) d (cl (tab k fun k => at_ L ((k + L.length - rmd d L.length) % L.length))) k) (cl (turn (rmd d L.length) L), 0) := by
  have hl := h.len
  have hpos := h.pos
  have hr := rmd_lt d hpos
  intro m
  induction m with
  | zero =>
    intro k hk
    have : k = L.length := by omega
    subst this
    exact Ev.step (fun f => fringeref11_Turn.l0.eq_2 _ _ _ _ f) (evn (by rw [cl_length]; omega) (Ev.now _))
  | succ m ih =>
    intro k hk
    have ih := ih (k + 1) (by omega)
    refine Ev.step (fun f => fringeref11_Turn.l0.eq_2 _ _ _ _ f) (evp (by rw [cl_length]; omega) ?_)
    have e1 : fringeref11_at.f d ((cl L).length : Int) = some ((rmd d L.length : Nat) : Int) := by rw [cl_length]; exact at_rmd hpos (by omega) hd
    have e2 : fringeref11_at.f (wrap64 ((k : Int) - ((rmd d L.length : Nat) : Int))) ((cl L).length : Int) = some (((k + L.length - rmd d L.length) % L.length : Nat) : Int) := by
      rw [cl_length, w64 (by omega) (by omega), at_ev hpos (by omega) (by omega) (by omega)]
      congr 1
      rw [Int.natCast_emod, Int.natCast_sub (by omega), Int.natCast_add, show (k : Int) + (L.length : Int) - (rmd d L.length : Int) = (k : Int) - (rmd d L.length : Int) + (L.length : Int) by omega, Int.add_emod_right]
    have hm := Nat.mod_lt (k + L.length - rmd d L.length) (show 0 < L.length by omega)
    rw [e1]
    refine Ev.bind (Ev.now _) ?_
    rw [e2]
    refine Ev.bind (Ev.now _) (evp (by omega) (evp (by rw [cl_length]; omega) (evp (by rw [cl_length, tab_length]; omega) ?_)))
    rw [cl_get, succ1 (by omega)]
    rw [tab_succ, cl_append] at ih
    exact ih
theorem rTurn_ev (d : Int) (hd : (Lit.int .i64 d).wf = true) : Ev (fun k => fringeref11_Turn.f k p (cl L) d) (cl (turn (rmd d L.length) L), 0) :=
  Ev.congr (fun k => fringeref11_Turn.f.eq_1 k _ _ _) (Ev.bind (check_ok h).2 (evp rfl (rTurn_loop h d hd L.length 0 (Nat.zero_add _))))
/-! phases -/
def phase (p w d : Nat) (L : List Nat) : List Nat := tab L.length fun k => at_ L k * (w ^ (d * k) % p) % p
theorem phase_lt (w d : Nat) : ∀ x ∈ phase p w d L, x < p := by
  intro x hx
  simp only [phase, tab, List.mem_map] at hx
  obtain ⟨i, _, rfl⟩ := hx
  exact Nat.mod_lt _ (by have := h.pr.1; omega)
theorem Phase_loop (s : Nat) (hs : s < p) : ∀ (m i : Nat), i + m = L.length → Ev (fun k => fourier_Phase.l0 k p s (cl (tab L.length fun j => if j < i then at_ L j * (s ^ j % p) % p else at_ L j)) ((s ^ i % p : Nat) : Int) (L.length : Int) i) (cl (tab L.length fun j => at_ L j * (s ^ j % p) % p), 0) := by
  have hp0 := h.pr.1
  have hl := h.len
  intro m
  induction m with
  | zero =>
    intro i hi
    have : i = L.length := by omega
    subst this
    refine Ev.step (fun k => fourier_Phase.l0.eq_2 _ _ _ _ _ _ k) (evn (by omega) ?_)
    rw [tab_congr (g := fun j => at_ L j * (s ^ j % p) % p) (fun j hj => if_pos hj)]
    exact Ev.now _
  | succ m ih =>
    intro i hi
    have ih := ih (i + 1) (by omega)
    have hsp := Nat.mod_lt (s ^ i) (show 0 < p by omega)
    refine Ev.step (fun k => fourier_Phase.l0.eq_2 _ _ _ _ _ _ k) (evp (by omega) (evp (by omega) (evp (by rw [cl_length, tab_length]; omega) (evn (by omega) ?_))))
    rw [Int.toNat_natCast, cl_get, at_tab _ (by omega), if_neg (Nat.lt_irrefl _), tm h.pr h.le (b := at_ L i * (s ^ i % p)) (by simp) (Nat.le_trans (mul_lt (at_lt h.lt (by omega) i) hsp h.le) (by decide)), cl_set, succ1 (by omega), tm h.pr h.le (b := s ^ i % p * s) (by simp) (Nat.le_trans (mul_lt hsp hs h.le) (by decide))]
    have e2 : s ^ i % p * s % p = s ^ (i + 1) % p := by rw [Nat.pow_succ]; exact mmod (mm _ _) rfl
    have e : (tab L.length fun j => if j = i then at_ L i * (s ^ i % p) % p else if j < i then at_ L j * (s ^ j % p) % p else at_ L j) = tab L.length fun j => if j < i + 1 then at_ L j * (s ^ j % p) % p else at_ L j := by
      refine tab_congr fun j hj => ?_
      by_cases e : j = i
      · subst e
        rw [if_pos rfl, if_pos (by omega)]
      · rw [if_neg e]
        by_cases e2 : j < i
        · rw [if_pos e2, if_pos (by omega)]
        · rw [if_neg e2, if_neg (by omega)]
    rw [e, e2]
    exact ih
theorem Phase_ev (d : Int) : Ev (fun k => fourier_Phase.f k p (cl L) d) (cl (phase p (rt p L.length) (rmd d L.length) L), 0) := by
  have hp0 := h.pr.1
  have hl := h.len
  have hpos := h.pos
  have hr := rmd_lt d hpos
  refine Ev.congr (fun k => fourier_Phase.f.eq_1 k _ _ _) (Ev.bind (check_ok h).1 (evp rfl (Ev.bind (root_ev h) (evn (by rw [cl_length]; omega) ?_))))
  rw [cl_length, tmod_rmd d hpos (by omega)]
  refine Ev.bind (pow_ev h.pr h.le (rt_lt h.pr h.le _) (by omega)) ?_
  have hc : slices_Clone_int64_int64.f (cl L) = some (cl L) := by
    unfold slices_Clone_int64_int64.f
    rw [Option.bind_some, if_pos (by rw [cl_length]; simp; omega)]
    rfl
  rw [hc]
  refine Ev.bind (Ev.now _) ?_
  have key := Phase_loop h (rt p L.length ^ rmd d L.length % p) (Nat.mod_lt _ (by omega)) L.length 0 (Nat.zero_add _)
  rw [tab_congr (g := at_ L) (fun j hj => if_neg (Nat.not_lt_zero j)), tab_at, Nat.pow_zero, Nat.mod_eq_of_lt (show 1 < p by omega)] at key
  have e : (tab L.length fun j => at_ L j * ((rt p L.length ^ rmd d L.length % p) ^ j % p) % p) = phase p (rt p L.length) (rmd d L.length) L := by
    unfold phase
    exact tab_congr fun j hj => by rw [pow_mod_pow]
  rw [e] at key
  rw [cl_length]
  exact key
theorem rPhase_loop (d : Int) (hd : (Lit.int .i64 d).wf = true) : ∀ (m k : Nat), k + m = L.length → Ev (fun f => fringeref11_Phase.l0 f p (cl L) d (cl (tab L.length fun i => rt p L.length ^ i % p)) (cl (tab k fun k => at_ L k * (rt p L.length ^ (rmd d L.length * k) % p) % p)) k) (cl (phase p (rt p L.length) (rmd d L.length) L), 0) := by
  have hp0 := h.pr.1
  have hl := h.len
  have hpos := h.pos
  have hr := rmd_lt d hpos
  intro m
  induction m with
  | zero =>
    intro k hk
    have : k = L.length := by omega
    subst this
    exact Ev.step (fun f => fringeref11_Phase.l0.eq_2 _ _ _ _ _ _ f) (evn (by rw [cl_length]; omega) (Ev.now _))
  | succ m ih =>
    intro k hk
    have ih := ih (k + 1) (by omega)
    have hmul : rmd d L.length * k ≤ 64 * 64 := Nat.mul_le_mul (by omega) (by omega)
    have hm := Nat.mod_lt (rmd d L.length * k) (show 0 < L.length by omega)
    refine Ev.step (fun f => fringeref11_Phase.l0.eq_2 _ _ _ _ _ _ f) (evp (by rw [cl_length]; omega) (evp (by omega) ?_))
    have e1 : fringeref11_at.f d ((cl L).length : Int) = some ((rmd d L.length : Nat) : Int) := by rw [cl_length]; exact at_rmd hpos (by omega) hd
    have e2 : fringeref11_at.f (wrap64 (((rmd d L.length : Nat) : Int) * (k : Int))) ((cl L).length : Int) = some ((rmd d L.length * k % L.length : Nat) : Int) := by
      rw [cl_length, mulN, w64N (by omega), at_ev hpos (by omega) (by omega) (by omega)]
      rfl
    rw [e1]
    refine Ev.bind (Ev.now _) ?_
    rw [e2]
    refine Ev.bind (Ev.now _) (evp (by omega) (evp (by rw [cl_length, tab_length]; omega) (evn (by omega) (evp (by rw [cl_length, tab_length]; omega) ?_))))
    rw [cl_get, cl_get, at_tab _ hm, tm h.pr h.le (b := at_ L k * (rt p L.length ^ (rmd d L.length * k % L.length) % p)) (by simp) (Nat.le_trans (mul_lt (at_lt h.lt (by omega) k) (Nat.mod_lt _ (by omega)) h.le) (by decide)), succ1 (by omega), pow_mod_n hp0 (fit_ord h)]
    rw [tab_succ, cl_append] at ih
    exact ih
theorem rPhase_ev (d : Int) (hd : (Lit.int .i64 d).wf = true) : Ev (fun k => fringeref11_Phase.f k p (cl L) d) (cl (phase p (rt p L.length) (rmd d L.length) L), 0) := by
  have hl := h.len
  refine Ev.congr (fun k => fringeref11_Phase.f.eq_1 k _ _ _) (Ev.bind (check_ok h).2 (evp rfl ?_))
  rw [cl_length]
  exact Ev.bind (refroot_ev h.pr h.le h.pos (by omega) h.dvd) (rPhase_loop h d hd L.length 0 (Nat.zero_add _))
/-! signed numbers -/
def sg (p x : Nat) : Int := if p < 2 * x then (x : Int) - p else x
def sgn (p : Nat) (L : List Nat) : List Int := L.map (sg p)
theorem sg_eq {x : Nat} (hx : x < p) : fringeref11_Center.f p x = some (sg p x) := by
  have := h.le
  unfold fringeref11_Center.f sg
  rw [w64 (x := 2 * (x : Int)) (by omega) (by omega)]
  by_cases c : p < 2 * x
  · rw [if_pos (by omega), if_pos c, w64 (by omega) (by omega)]
  · rw [if_neg (by omega), if_neg c]
theorem Signed_loop : ∀ (m i : Nat), i + m = L.length → Ev (fun k => fourier_Signed.l0 k p ((sgn p L).take i ++ (cl L).drop i) (L.length : Int) i) (sgn p L, 0) := by
  have hp0 := h.pr.1
  have hl := h.len
  have hle := h.le
  have hsl : (sgn p L).length = L.length := List.length_map _
  intro m
  induction m with
  | zero =>
    intro i hi
    have : i = L.length := by omega
    subst this
    refine Ev.step (fun k => fourier_Signed.l0.eq_2 _ _ _ _ k) (evn (by omega) ?_)
    rw [List.take_of_length_le (by omega), List.drop_eq_nil_of_le (by rw [cl_length]; omega), List.append_nil]
    exact Ev.now _
  | succ m ih =>
    intro i hi
    have ih := ih (i + 1) (by omega)
    have hi2 : i < L.length := by omega
    have htl : ((sgn p L).take i).length = i := by rw [List.length_take]; omega
    have hx : L[i] < p := h.lt _ (List.getElem_mem hi2)
    have hd : (cl L).drop i = (L[i] : Int) :: (cl L).drop (i + 1) := by rw [List.drop_eq_getElem_cons (by rw [cl_length]; exact hi2)]; simp [cl]
    have hts : (sgn p L).take (i + 1) = (sgn p L).take i ++ [sg p L[i]] := by
      rw [List.take_add_one, List.getElem?_eq_getElem (by omega)]; simp [sgn]
    have hrd : rd ((sgn p L).take i ++ (cl L).drop i) (i : Int) = (L[i] : Int) := by
      rw [hd]
      simp [rd, List.getD_eq_getElem?_getD, List.getElem?_append_right, htl]
    have hset : ∀ v : Int, ((sgn p L).take i ++ (cl L).drop i).set i v = (sgn p L).take i ++ v :: (cl L).drop (i + 1) := fun v => by
      rw [hd, List.set_append_right _ _ (by omega), htl, Nat.sub_self]; rfl
    refine Ev.step (fun k => fourier_Signed.l0.eq_2 _ _ _ _ k) (evp (by omega) (evp (by omega) (evp (by rw [List.length_append, htl, List.length_drop, cl_length]; omega) ?_)))
    have hdv : wrap64 (Int.tdiv (p : Int) 2) = ((p / 2 : Nat) : Int) := by rw [show (2 : Int) = ((2 : Nat) : Int) from rfl, tdivN, w64N (by omega)]
    rw [hrd, hdv, Int.toNat_natCast, hset, succ1 (by omega)]
    rw [hts, List.append_assoc] at ih
    by_cases c : p < 2 * L[i]
    · refine evp (by omega) ?_
      rw [w64 (by omega) (by omega)]
      have e : sg p L[i] = (L[i] : Int) - p := if_pos c
      rw [e] at ih
      exact ih
    · refine evn (by omega) ?_
      have e : sg p L[i] = (L[i] : Int) := if_neg c
      rw [e] at ih
      rw [hd]
      exact ih
theorem Signed_ev : Ev (fun k => fourier_Signed.f k p (cl L)) (sgn p L, 0) := by
  have hl := h.len
  refine Ev.congr (fun k => fourier_Signed.f.eq_1 k _ _) (Ev.bind (check_ok h).1 (evp rfl ?_))
  have hc : slices_Clone_int64_int64.f (cl L) = some (cl L) := by
    unfold slices_Clone_int64_int64.f
    rw [Option.bind_some, if_pos (by rw [cl_length]; simp; omega)]
    rfl
  rw [hc]
  refine Ev.bind (Ev.now _) ?_
  rw [cl_length]
  exact Signed_loop h L.length 0 (Nat.zero_add _)
theorem rSigned_loop : ∀ (m i : Nat), i + m = L.length → Ev (fun k => fringeref11_Signed.l0 k p (cl L) ((sgn p L).take i) i) (sgn p L, 0) := by
  have hl := h.len
  have hsl : (sgn p L).length = L.length := List.length_map _
  intro m
  induction m with
  | zero =>
    intro i hi
    have : i = L.length := by omega
    subst this
    refine Ev.step (fun k => fringeref11_Signed.l0.eq_2 _ _ _ _ k) (evn (by rw [cl_length]; omega) ?_)
    rw [List.take_of_length_le (by omega)]
    exact Ev.now _
  | succ m ih =>
    intro i hi
    have ih := ih (i + 1) (by omega)
    have hi2 : i < L.length := by omega
    have hx : L[i] < p := h.lt _ (List.getElem_mem hi2)
    have hts : (sgn p L).take (i + 1) = (sgn p L).take i ++ [sg p L[i]] := by
      rw [List.take_add_one, List.getElem?_eq_getElem (by omega)]; simp [sgn]
    refine Ev.step (fun k => fringeref11_Signed.l0.eq_2 _ _ _ _ k) (evp (by rw [cl_length]; omega) (evp (by omega) ?_))
    rw [rd_cl L i hi2, sg_eq h hx, succ1 (by omega)]
    rw [hts] at ih
    exact Ev.bind (Ev.now _) (evp (by rw [List.length_take]; omega) ih)
theorem rSigned_ev : Ev (fun k => fringeref11_Signed.f k p (cl L)) (sgn p L, 0) :=
  Ev.congr (fun k => fringeref11_Signed.f.eq_1 k _ _) (Ev.bind (check_ok h).2 (evp rfl (rSigned_loop h L.length 0 (Nat.zero_add _))))
end
/-! reducing -/
theorem red_one {p : Nat} (hp : 2 ≤ p) (hp2 : p ≤ 2000000000) {x : Int} (h0 : -(p : Int) ≤ x) (h1 : x ≤ p) :
    Int.tmod (wrap64 (Int.tmod x p + p)) p = x % (p : Int) ∧ Int.tmod (wrap64 (x + p)) p = x % (p : Int) := by
  have hb : (0 : Int) < p := by omega
  have e1 := Int.mul_tdiv_add_tmod x p
  have e2 := Int.tmod_lt_of_pos x hb
  have e3 := Int.tmod_lt_of_pos (-x) hb
  rw [Int.neg_tmod] at e3
  have a1 : Int.tmod (Int.tmod x p + p) p = (Int.tmod x p + p) % (p : Int) := Int.tmod_eq_emod_of_nonneg (by omega)
  have a2 : Int.tmod (x + p) p = (x + p) % (p : Int) := Int.tmod_eq_emod_of_nonneg (by omega)
  have a3 : (Int.tmod x p) % (p : Int) = x % (p : Int) := by conv => rhs; rw [← e1, Int.add_comm, Int.add_mul_emod_self_left]
  rw [w64 (by omega) (by omega), w64 (x := x + p) (by omega) (by omega), a1, a2, Int.add_emod_right, Int.add_emod_right, a3]
  exact ⟨rfl, rfl⟩
def red (p : Nat) (l : List Int) : List Int := l.map fun x => x % (p : Int)
section
variable {p : Nat} (hp : Pr p) (hp2 : p ≤ 2000000000) {l : List Int} (hl : l.length ≤ 1000)
include hp hp2 hl
theorem red_loop : ∀ (m i : Nat), i + m = l.length →
    ((∀ x ∈ l.drop i, -(p : Int) ≤ x ∧ x ≤ p) → Ev (fun k => fourier_Reduce.l0 k p ((red p l).take i) l (l.length : Int) i) (red p l, 0)) ∧
    (¬ (∀ x ∈ l.drop i, -(p : Int) ≤ x ∧ x ≤ p) → Ev (fun k => fourier_Reduce.l0 k p ((red p l).take i) l (l.length : Int) i) ([], 8)) := by
  have hp0 := hp.1
  have hrl : (red p l).length = l.length := List.length_map _
  intro m
  induction m with
  | zero =>
    intro i hi
    have : i = l.length := by omega
    subst this
    rw [List.drop_length, List.take_of_length_le (by omega)]
    exact ⟨fun _ => Ev.step (fun k => fourier_Reduce.l0.eq_2 _ _ _ _ _ k) (evn (by omega) (Ev.now _)), fun h => absurd (by simp) h⟩
  | succ m ih =>
    intro i hi
    obtain ⟨i1, i2⟩ := ih (i + 1) (by omega)
    have hlt : i < l.length := by omega
    have e : rd l (i : Int) = l[i] := by simp [rd, List.getD_eq_getElem?_getD, hlt]
    have hts : (red p l).take (i + 1) = (red p l).take i ++ [l[i] % (p : Int)] := by
      rw [List.take_add_one, List.getElem?_eq_getElem (by omega)]; simp [red]
    have st : ∀ {r}, Ev (fun k => if l[i] < wrap64 (-(p : Int)) then some ([], 8) else if l[i] > (p : Int) then some ([], 8) else if (p : Int) = 0 then none else if ((red p l).take i).length < 17592186044416 then fourier_Reduce.l0 k p ((red p l).take i ++ [Int.tmod (wrap64 (Int.tmod l[i] p + p)) p]) l (l.length : Int) ((i + 1 : Nat) : Int) else none) r → Ev (fun k => fourier_Reduce.l0 k p ((red p l).take i) l (l.length : Int) i) r := fun h => by
      refine Ev.step (fun k => fourier_Reduce.l0.eq_2 _ _ _ _ _ k) (evp (by omega) (evp (by omega) (evp (by omega) ?_)))
      rw [e, succ1 (by omega)]
      exact h
    rw [w64 (by omega) (by omega)] at st
    rw [List.drop_eq_getElem_cons hlt]
    constructor
    · intro h
      have h0 := h l[i] List.mem_cons_self
      refine st (evn (by omega) (evn (by omega) (evn (by omega) (evp (by rw [List.length_take]; omega) ?_))))
      rw [(red_one hp0 hp2 h0.1 h0.2).1, ← hts]
      exact i1 fun x hx => h x (List.mem_cons_of_mem _ hx)
    · intro h
      by_cases c1 : l[i] < -(p : Int)
      · exact st (evp c1 (Ev.now _))
      by_cases c2 : l[i] > (p : Int)
      · exact st (evn c1 (evp c2 (Ev.now _)))
      refine st (evn c1 (evn c2 (evn (by omega) (evp (by rw [List.length_take]; omega) ?_))))
      rw [(red_one hp0 hp2 (x := l[i]) (by omega) (by omega)).1, ← hts]
      refine i2 fun hh => h fun x hx => ?_
      rcases List.mem_cons.1 hx with rfl | hx
      · omega
      · exact hh x hx
theorem rred_loop1 (hok : ∀ x ∈ l, -(p : Int) ≤ x ∧ x ≤ p) : ∀ (m i : Nat), i + m = l.length → Ev (fun k => fringeref11_Reduce.l1 k p l ((red p l).take i) i) (red p l, 0) := by
  have hp0 := hp.1
  have hrl : (red p l).length = l.length := List.length_map _
  intro m
  induction m with
  | zero =>
    intro i hi
    have : i = l.length := by omega
    subst this
    rw [List.take_of_length_le (by omega)]
    exact Ev.step (fun k => fringeref11_Reduce.l1.eq_2 _ _ _ _ k) (evn (by omega) (Ev.now _))
  | succ m ih =>
    intro i hi
    have ih := ih (i + 1) (by omega)
    have hlt : i < l.length := by omega
    have e : rd l (i : Int) = l[i] := by simp [rd, List.getD_eq_getElem?_getD, hlt]
    have hts : (red p l).take (i + 1) = (red p l).take i ++ [l[i] % (p : Int)] := by
      rw [List.take_add_one, List.getElem?_eq_getElem (by omega)]; simp [red]
    have h0 := hok l[i] (List.getElem_mem hlt)
    refine Ev.step (fun k => fringeref11_Reduce.l1.eq_2 _ _ _ _ k) (evp (by omega) (evp (by omega) (evn (by omega) (evp (by rw [List.length_take]; omega) ?_))))
    rw [e, succ1 (by omega), (red_one hp0 hp2 h0.1 h0.2).2, ← hts]
    exact ih
theorem rred_loop : ∀ (m i : Nat), i + m = l.length →
    ((∀ x ∈ l.drop i, -(p : Int) ≤ x ∧ x ≤ p) → ∀ {r}, Ev (fun k => fringeref11_Reduce.l1 k p l [] 0) r → Ev (fun k => fringeref11_Reduce.l0 k p l i) r) ∧
    (¬ (∀ x ∈ l.drop i, -(p : Int) ≤ x ∧ x ≤ p) → Ev (fun k => fringeref11_Reduce.l0 k p l i) ([], 8)) := by
  have hp0 := hp.1
  intro m
  induction m with
  | zero =>
    intro i hi
    have : i = l.length := by omega
    subst this
    rw [List.drop_length]
    exact ⟨fun _ r h => Ev.step (fun k => fringeref11_Reduce.l0.eq_2 _ _ _ k) (evn (by omega) h), fun h => absurd (by simp) h⟩
  | succ m ih =>
    intro i hi
    obtain ⟨i1, i2⟩ := ih (i + 1) (by omega)
    have hlt : i < l.length := by omega
    have e : rd l (i : Int) = l[i] := by simp [rd, List.getD_eq_getElem?_getD, hlt]
    have st : ∀ {r}, Ev (fun k => if l[i] < wrap64 (-(p : Int)) then some ([], 8) else if l[i] > (p : Int) then some ([], 8) else fringeref11_Reduce.l0 k p l ((i + 1 : Nat) : Int)) r → Ev (fun k => fringeref11_Reduce.l0 k p l i) r := fun h => by
      refine Ev.step (fun k => fringeref11_Reduce.l0.eq_2 _ _ _ k) (evp (by omega) (evp (by omega) ?_))
      rw [e, succ1 (by omega)]
      exact h
    rw [w64 (by omega) (by omega)] at st
    rw [List.drop_eq_getElem_cons hlt]
    constructor
    · intro h r hr
      have h0 := h l[i] List.mem_cons_self
      exact st (evn (by omega) (evn (by omega) (i1 (fun x hx => h x (List.mem_cons_of_mem _ hx)) hr)))
    · intro h
      by_cases c1 : l[i] < -(p : Int)
      · exact st (evp c1 (Ev.now _))
      by_cases c2 : l[i] > (p : Int)
      · exact st (evn c1 (evp c2 (Ev.now _)))
      refine st (evn c1 (evn c2 (i2 fun hh => h fun x hx => ?_)))
      rcases List.mem_cons.1 hx with rfl | hx
      · omega
      · exact hh x hx
theorem Reduce_ev (hok : ∀ x ∈ l, -(p : Int) ≤ x ∧ x ≤ p) : Ev (fun k => fourier_Reduce.f k p l) (red p l, 0) := by
  have hm : Mod (p : Int) := ⟨p, rfl, hp2, hp⟩
  have key := (red_loop hp hp2 hl l.length 0 (Nat.zero_add _)).1
  rw [List.drop_zero] at key
  exact Ev.congr (fun k => fourier_Reduce.f.eq_1 k _ _) (Ev.bind ((ring_Check_ev p).1 hm) (evp rfl (evn (by omega) (key hok))))
end
theorem reduce_all (a : Int) (l : List Int) : ∃ x e, Ev (fun k => fourier_Reduce.f k a l) (x, e) ∧ Ev (fun k => fringeref11_Reduce.f k a l) (x, e) ∧ x.length ≤ 1000 := by
  by_cases hm : Mod a
  · have c1 := (ring_Check_ev a).1 hm
    have c2 := (refCheck_ev a).1 hm
    by_cases hl : (l.length : Int) > 1000
    · exact ⟨[], 4, Ev.congr (fun k => fourier_Reduce.f.eq_1 k _ _) (Ev.bind c1 (evp rfl (evp hl (Ev.now _)))), Ev.congr (fun k => fringeref11_Reduce.f.eq_1 k _ _) (Ev.bind c2 (evp rfl (evp hl (Ev.now _)))), by simp⟩
    · obtain ⟨p, rfl, hp2, hp⟩ := hm
      have k1 := red_loop hp hp2 (l := l) (by omega) l.length 0 (Nat.zero_add _)
      have k2 := rred_loop hp hp2 (l := l) (by omega) l.length 0 (Nat.zero_add _)
      rw [List.drop_zero] at k1 k2
      by_cases hok : ∀ x ∈ l, -(p : Int) ≤ x ∧ x ≤ p
      · have k3 := rred_loop1 hp hp2 (l := l) (by omega) hok l.length 0 (Nat.zero_add _)
        exact ⟨red p l, 0, Ev.congr (fun k => fourier_Reduce.f.eq_1 k _ _) (Ev.bind c1 (evp rfl (evn hl (k1.1 hok)))), Ev.congr (fun k => fringeref11_Reduce.f.eq_1 k _ _) (Ev.bind c2 (evp rfl (evn hl (k2.1 hok k3)))), by unfold red; rw [List.length_map]; omega⟩
      · exact ⟨[], 8, Ev.congr (fun k => fourier_Reduce.f.eq_1 k _ _) (Ev.bind c1 (evp rfl (evn hl (k1.2 hok)))), Ev.congr (fun k => fringeref11_Reduce.f.eq_1 k _ _) (Ev.bind c2 (evp rfl (evn hl (k2.2 hok)))), by simp⟩
  · exact ⟨[], 2, Ev.congr (fun k => fourier_Reduce.f.eq_1 k _ _) (Ev.bind ((ring_Check_ev a).2 hm) (evn (by decide) (Ev.now _))), Ev.congr (fun k => fringeref11_Reduce.f.eq_1 k _ _) (Ev.bind ((refCheck_ev a).2 hm) (evn (by decide) (Ev.now _))), by simp⟩
theorem turn_all (a : Int) (l : List Int) (d : Int) (hd : (Lit.int .i64 d).wf = true) : ∃ x e, Ev (fun k => fourier_Turn.f k a l d) (x, e) ∧ Ev (fun k => fringeref11_Turn.f k a l d) (x, e) ∧ x.length ≤ 1000 := by
  obtain ⟨r, c1, c2, c3⟩ := check_all11 a l
  by_cases h0 : r = 0
  · obtain ⟨p, L, rfl, rfl, h⟩ := c3 h0
    exact ⟨_, _, Turn_ev h d, rTurn_ev h d hd, by rw [cl_length, turn_length]; have := h.len; omega⟩
  · exact ⟨[], r, Ev.congr (fun k => fourier_Turn.f.eq_1 k _ _ _) (Ev.bind c1 (evn h0 (Ev.now _))), Ev.congr (fun k => fringeref11_Turn.f.eq_1 k _ _ _) (Ev.bind c2 (evn h0 (Ev.bind c2 (Ev.now _)))), by simp⟩
theorem phase_all (a : Int) (l : List Int) (d : Int) (hd : (Lit.int .i64 d).wf = true) : ∃ x e, Ev (fun k => fourier_Phase.f k a l d) (x, e) ∧ Ev (fun k => fringeref11_Phase.f k a l d) (x, e) ∧ x.length ≤ 1000 := by
  obtain ⟨r, c1, c2, c3⟩ := check_all11 a l
  by_cases h0 : r = 0
  · obtain ⟨p, L, rfl, rfl, h⟩ := c3 h0
    exact ⟨_, _, Phase_ev h d, rPhase_ev h d hd, by rw [cl_length, phase, tab_length]; have := h.len; omega⟩
  · exact ⟨[], r, Ev.congr (fun k => fourier_Phase.f.eq_1 k _ _ _) (Ev.bind c1 (evn h0 (Ev.now _))), Ev.congr (fun k => fringeref11_Phase.f.eq_1 k _ _ _) (Ev.bind c2 (evn h0 (Ev.bind c2 (Ev.now _)))), by simp⟩
theorem signed_all (a : Int) (l : List Int) : ∃ x e, Ev (fun k => fourier_Signed.f k a l) (x, e) ∧ Ev (fun k => fringeref11_Signed.f k a l) (x, e) ∧ x.length ≤ 1000 := by
  obtain ⟨r, c1, c2, c3⟩ := check_all11 a l
  by_cases h0 : r = 0
  · obtain ⟨p, L, rfl, rfl, h⟩ := c3 h0
    exact ⟨_, _, Signed_ev h, rSigned_ev h, by rw [sgn, List.length_map]; have := h.len; omega⟩
  · exact ⟨[], r, Ev.congr (fun k => fourier_Signed.f.eq_1 k _ _) (Ev.bind c1 (evn h0 (Ev.now _))), Ev.congr (fun k => fringeref11_Signed.f.eq_1 k _ _) (Ev.bind c2 (evn h0 (Ev.bind c2 (Ev.now _)))), by simp⟩
end Go.Proofs.Ytbeidonfmeengaa.FL
