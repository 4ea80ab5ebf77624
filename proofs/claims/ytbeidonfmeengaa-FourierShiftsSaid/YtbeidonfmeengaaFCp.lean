/- Convolutions: what the program's and the reference's loops come to, for every input. -/
import Derived.Test.YtbeidonfmeengaaFLp
import Derived.Test.YtbeidonfmeengaaPAllx8
set_option linter.unusedVariables false
set_option linter.unusedSimpArgs false
set_option linter.unusedSectionVars false
namespace Go.Proofs.Ytbeidonfmeengaa.FL
open Go Go.RowKit Go.Proofs.Ytbeidonfmeengaa.PAll Go.Proofs.YtbeidonfmeengaaW.PrintWords Go.Proofs.YtbeidonfmeengaaW.PrintLast RM FM Go.Proofs.Ytbeidonfmeengaa.RL

theorem conv_lt {p : Nat} (hp : 0 < p) (A B : List Nat) : ∀ x ∈ conv p A B, x < p := by
  intro x hx
  simp only [conv, tab, List.mem_map] at hx
  obtain ⟨i, _, rfl⟩ := hx
  exact Nat.mod_lt _ hp
def prod2 (p : Nat) (X Y : List Nat) : List Nat := tab X.length fun k => at_ X k * at_ Y k % p
section
variable {p : Nat} (hp : Pr p) (hp2 : p ≤ 2000000000) {X Y : List Nat} (hX : ∀ x ∈ X, x < p) (hY : ∀ x ∈ Y, x < p) (hl : X.length = Y.length) (h1 : X.length ≤ 1000)
include hp hp2 hX hY hl h1
theorem conv_loop {r : List Int × Int} (hr : Ev (fun k => (fourier_back.f k p (cl (prod2 p X Y))).bind fun t => some (t, 0)) r) : ∀ (m i : Nat), i + m = X.length → Ev (fun k => fourier_Convolve.l0 k p (cl (tab X.length fun j => if j < i then at_ X j * at_ Y j % p else at_ X j)) (cl Y) (X.length : Int) i) r := by
  have hp0 := hp.1
  intro m
  induction m with
  | zero =>
    intro i hi
    have : i = X.length := by omega
    subst this
    refine Ev.step (fun k => fourier_Convolve.l0.eq_2 _ _ _ _ _ k) (evn (by omega) ?_)
    rw [tab_congr (g := fun j => at_ X j * at_ Y j % p) (fun j hj => if_pos hj)]
    exact hr
  | succ m ih =>
    intro i hi
    have ih := ih (i + 1) (by omega)
    refine Ev.step (fun k => fourier_Convolve.l0.eq_2 _ _ _ _ _ k) (evp (by omega) (evp (by omega) (evp (by rw [cl_length, tab_length]; omega) (evp (by rw [cl_length]; omega) (evn (by omega) ?_)))))
    rw [Int.toNat_natCast, cl_get, cl_get, at_tab _ (by omega), if_neg (Nat.lt_irrefl _), tm hp hp2 (b := at_ X i * at_ Y i) (by simp) (Nat.le_trans (mul_lt (at_lt hX (by omega) i) (at_lt hY (by omega) i) hp2) (by decide)), cl_set, succ1 (by omega)]
    have e : (tab X.length fun j => if j = i then at_ X i * at_ Y i % p else if j < i then at_ X j * at_ Y j % p else at_ X j) = tab X.length fun j => if j < i + 1 then at_ X j * at_ Y j % p else at_ X j := by
      refine tab_congr fun j hj => ?_
      by_cases e : j = i
      · subst e
        rw [if_pos rfl, if_pos (by omega)]
      · rw [if_neg e]
        by_cases e2 : j < i
        · rw [if_pos e2, if_pos (by omega)]
        · rw [if_neg e2, if_neg (by omega)]
    rw [e]
    exact ih
end
/-- The products of both transforms are the convolution's transform. -/
theorem fwd_conv_eq {p : Nat} {A B : List Nat} (hA : Fit p A) (hl : A.length = B.length) : fwd p (rt p A.length) (conv p A B) = prod2 p (fwd p (rt p A.length) A) (fwd p (rt p A.length) B) := by
  refine eq_of_at (by rw [fwd_length, conv_length, prod2, tab_length, fwd_length]) fun i hi => ?_
  rw [fwd_length, conv_length] at hi
  rw [fwd_conv hA.pr.1 hl (fit_ord hA) hi, prod2, at_tab _ (by rw [fwd_length]; exact hi)]
theorem Fit.conv {p : Nat} {A : List Nat} (hA : Fit p A) (B : List Nat) : Fit p (conv p A B) := Fit.other hA (conv_length _ _ _) (conv_lt (by have := hA.pr.1; omega) _ _)
section
variable {p : Nat} {A B : List Nat} (hA : Fit p A) (hB : Fit p B)
include hA hB
theorem convolve_ev (hl : A.length = B.length) : Ev (fun k => fourier_Convolve.f k p (cl A) (cl B)) (cl (conv p A B), 0) := by
  have hp0 := hA.pr.1
  have hlen := hA.len
  have hx := fwd_ev hA
  have hy := fwd_ev hB
  rw [← hl] at hy
  refine Ev.congr (fun k => fourier_Convolve.f.eq_1 k _ _ _) (Ev.bind (check_ok hA).1 (evp rfl (Ev.bind (check_ok hB).1 (evp rfl (evp (by rw [cl_length, cl_length, hl]) (Ev.bind (root_ev hA) (Ev.bind hx (Ev.bind hy ?_))))))))
  have hC := Fit.conv hA B
  have hback := back_ev (Fit.fwd hC (rt p A.length))
  have e2 := bwd_fwd hC
  rw [conv_length] at e2
  rw [e2, fwd_conv_eq hA hl] at hback
  have key := conv_loop hA.pr hA.le (fwd_lt (by omega) (w := rt p A.length) A) (fwd_lt (by omega) (w := rt p A.length) B) (by rw [fwd_length, fwd_length, hl]) (by rw [fwd_length]; omega) (r := (cl (conv p A B), 0)) (Ev.bind hback (Ev.now _)) _ 0 (Nat.zero_add _)
  rw [tab_congr (g := at_ (fwd p (rt p A.length) A)) (fun j hj => if_neg (Nat.not_lt_zero j)), tab_at] at key
  rw [cl_length]
  exact key
theorem both_ok : Ev (fun k => fringeref11_Both.f k p (cl A) (cl B)) 0 :=
  Ev.congr (fun k => fringeref11_Both.f.eq_1 k _ _ _) (Ev.bind (check_ok hA).2 (evp rfl (Ev.bind (check_ok hB).2 (Ev.now _))))
end
/-! the reference's convolution -/
section
variable {p : Nat} (hp : Pr p) (hp2 : p ≤ 2000000000) {A B : List Nat} (hA : ∀ x ∈ A, x < p) (hB : ∀ x ∈ B, x < p) {n : Nat} (hn : A.length = n) (hl : B.length = n) (h1 : 1 ≤ n) (h2 : n ≤ 1000)
include hp hp2 hA hB hn hl h1 h2
def cs (A B : List Nat) (n i k : Nat) : Nat := S i (fun i => at_ A i * at_ B ((k + n - i) % n))
def cp (A B : List Nat) (n i j k : Nat) : Nat := cs A B n i k + (if (k + n - i) % n < j then at_ A i * at_ B ((k + n - i) % n) else 0)
theorem cp_zero (i k : Nat) : cp A B n i 0 k = cs A B n i k := by unfold cp; rw [if_neg (Nat.not_lt_zero _)]; rfl
theorem cp_full (i k : Nat) : cp A B n i n k = cs A B n (i + 1) k := by unfold cp cs; rw [if_pos (Nat.mod_lt _ (by omega)), S_succ]
theorem rc_inner {i : Nat} (hi : i < n) {r : List Int × Int} (hr : Ev (fun f => fringeref11_Convolve.l0 f p (cl A) (cl B) (cl (tab n fun k => cs A B n (i + 1) k % p)) ((i + 1 : Nat) : Int)) r) :
    ∀ (m j : Nat), j + m = n → Ev (fun f => fringeref11_Convolve.l1 f p (cl A) (cl B) (cl (tab n fun k => cp A B n i j k % p)) i j) r := by
  have hp0 := hp.1
  intro m
  induction m with
  | zero =>
    intro j hj
    have : j = n := by omega
    subst this
    refine Ev.step (fun f => fringeref11_Convolve.l1.eq_2 _ _ _ _ _ _ f) (evn (by rw [cl_length]; omega) ?_)
    rw [succ1 (by omega), tab_congr (fun k hk => by rw [cp_full hp hp2 hA hB hn hl h1 h2])]
    exact hr
  | succ m ih =>
    intro j hj
    have ih := ih (j + 1) (by omega)
    have hq : Int.tmod (wrap64 ((i : Int) + (j : Int))) ((cl A).length : Int) = (((i + j) % n : Nat) : Int) := by
      rw [cl_length, hn, w64 (by omega) (by omega)]
      exact tmodN (i + j) n
    have hqn := Nat.mod_lt (i + j) (show 0 < n by omega)
    have hm := mul_lt (at_lt hA (by omega) i) (at_lt hB (by omega) j) hp2
    have hs := Nat.mod_lt (cp A B n i j ((i + j) % n)) (show 0 < p by omega)
    have hback : ((i + j) % n + n - i) % n = j := by
      by_cases c : i + j < n
      · rw [Nat.mod_eq_of_lt c, show i + j + n - i = j + n by omega, Nat.add_mod_right]
        exact Nat.mod_eq_of_lt (by omega)
      · rw [mod_sub' (a := i + j) (by omega) (by omega), show i + j - n + n - i = j by omega]
        exact Nat.mod_eq_of_lt (by omega)
    refine Ev.step (fun f => fringeref11_Convolve.l1.eq_2 _ _ _ _ _ _ f) (evp (by rw [cl_length]; omega) (evn (by rw [cl_length]; omega) ?_))
    rw [hq]
    refine evp (by omega) (evp (by rw [cl_length, tab_length]; omega) (evp (by omega) (evp (by rw [cl_length]; omega) (evp (by omega) (evn (by omega) ?_)))))
    rw [Int.toNat_natCast, cl_get, cl_get, cl_get, at_tab _ hqn, mulN, w64N (by omega), tm hp hp2 (b := cp A B n i j ((i + j) % n) % p + at_ A i * at_ B j) (by simp) (by omega), cl_set, succ1 (by omega)]
    have e : (tab n fun k => if k = (i + j) % n then (cp A B n i j ((i + j) % n) % p + at_ A i * at_ B j) % p else cp A B n i j k % p) = tab n fun k => cp A B n i (j + 1) k % p := by
      refine tab_congr fun k hk => ?_
      by_cases c : k = (i + j) % n
      · subst c
        rw [if_pos rfl]
        unfold cp
        rw [hback, if_neg (Nat.lt_irrefl _), if_pos (Nat.lt_succ_self _), Nat.add_zero]
        exact amod (mm _ _) rfl
      · rw [if_neg c]
        unfold cp
        have hne : (k + n - i) % n ≠ j := fun he => c (by
          have := shift_mod (n := n) (k := k) (i := i) (by omega)
          rw [he, Nat.mod_eq_of_lt hk, Nat.add_comm] at this
          exact this.symm)
        by_cases c2 : (k + n - i) % n < j
        · rw [if_pos c2, if_pos (by omega)]
        · rw [if_neg c2, if_neg (by omega)]
    rw [e]
    exact ih
theorem rc_outer : ∀ (m i : Nat), i + m = n → Ev (fun f => fringeref11_Convolve.l0 f p (cl A) (cl B) (cl (tab n fun k => cs A B n i k % p)) i) (cl (conv p A B), 0) := by
  intro m
  induction m with
  | zero =>
    intro i hi
    have : i = n := by omega
    subst this
    refine Ev.step (fun f => fringeref11_Convolve.l0.eq_2 _ _ _ _ _ f) (evn (by rw [cl_length]; omega) ?_)
    have e : (tab i fun k => cs A B i i k % p) = conv p A B := by unfold conv cs; rw [hn]
    rw [e]
    exact Ev.now _
  | succ m ih =>
    intro i hi
    have key := rc_inner hp hp2 hA hB hn hl h1 h2 (show i < n by omega) (ih (i + 1) (by omega)) n 0 (Nat.zero_add _)
    rw [tab_congr (fun k hk => by rw [cp_zero hp hp2 hA hB hn hl h1 h2])] at key
    exact Ev.step (fun f => fringeref11_Convolve.l0.eq_2 _ _ _ _ _ f) (evp (by rw [cl_length]; omega) key)
end
theorem rconvolve_ev {p : Nat} {A B : List Nat} (hA : Fit p A) (hB : Fit p B) (hl : A.length = B.length) : Ev (fun k => fringeref11_Convolve.f k p (cl A) (cl B)) (cl (conv p A B), 0) := by
  have hlen := hA.len
  refine Ev.congr (fun k => fringeref11_Convolve.f.eq_1 k _ _ _) (Ev.bind (both_ok hA hB) (evp rfl (evp (by rw [cl_length, cl_length, hl]) (evp (by omega) (evp (by rw [cl_length]; omega) ?_)))))
  rw [Int.toNat_natCast, cl_length, cl_zeros]
  have key := rc_outer hA.pr hA.le hA.lt hB.lt rfl hl.symm hA.pos (by omega) A.length 0 (Nat.zero_add _)
  have e : (tab A.length fun k => cs A B A.length 0 k % p) = tab A.length fun _ => 0 := tab_congr fun k _ => by simp [cs, S]
  rw [e] at key
  exact key
/-! for any arguments -/
theorem forward_all (a : Int) (l : List Int) : ∃ x e, Ev (fun k => fourier_Forward.f k a l) (x, e) ∧ Ev (fun k => fringeref11_Forward.f k a l) (x, e) ∧ x.length ≤ 1000 := by
  obtain ⟨r, c1, c2, c3⟩ := check_all11 a l
  by_cases h0 : r = 0
  · obtain ⟨p, L, rfl, rfl, h⟩ := c3 h0
    exact ⟨_, _, forward_ev h, rforward_ev h, by rw [cl_length, fwd_length]; have := h.len; omega⟩
  · exact ⟨[], r, Ev.congr (fun k => fourier_Forward.f.eq_1 k _ _) (Ev.bind c1 (evn h0 (Ev.now _))), Ev.congr (fun k => fringeref11_Forward.f.eq_1 k _ _) (Ev.bind c2 (evn h0 (Ev.bind c2 (Ev.now _)))), by simp⟩
theorem back_all (a : Int) (l : List Int) : ∃ x e, Ev (fun k => fourier_Back.f k a l) (x, e) ∧ Ev (fun k => fringeref11_Back.f k a l) (x, e) ∧ x.length ≤ 1000 := by
  obtain ⟨r, c1, c2, c3⟩ := check_all11 a l
  by_cases h0 : r = 0
  · obtain ⟨p, L, rfl, rfl, h⟩ := c3 h0
    exact ⟨_, _, Back_ev h, rBack_ev h, by rw [cl_length, bwd_length h]; have := h.len; omega⟩
  · exact ⟨[], r, Ev.congr (fun k => fourier_Back.f.eq_1 k _ _) (Ev.bind c1 (evn h0 (Ev.now _))), Ev.congr (fun k => fringeref11_Back.f.eq_1 k _ _) (Ev.bind c2 (evn h0 (Ev.bind c2 (Ev.now _)))), by simp⟩
theorem cl_inj : ∀ {A B : List Nat}, cl A = cl B → A = B
  | [], [], _ => rfl
  | [], _ :: _, h => by simp [cl] at h
  | _ :: _, [], h => by simp [cl] at h
  | a :: A, b :: B, h => by
    rw [cl_cons, cl_cons, List.cons.injEq] at h
    rw [cl_inj h.2, show a = b by omega]
theorem convolve_all (a : Int) (l m : List Int) : ∃ x e, Ev (fun k => fourier_Convolve.f k a l m) (x, e) ∧ Ev (fun k => fringeref11_Convolve.f k a l m) (x, e) ∧ x.length ≤ 1000 := by
  obtain ⟨r, c1, c2, c3⟩ := check_all11 a l
  obtain ⟨s, d1, d2, d3⟩ := check_all11 a m
  have b2 : ∀ {u}, (r = 0 → u = s) → (r ≠ 0 → u = r) → Ev (fun k => fringeref11_Both.f k a l m) u := fun {u} h h' => by
    refine Ev.congr (fun k => fringeref11_Both.f.eq_1 k _ _ _) (Ev.bind c2 ?_)
    by_cases h0 : r = 0
    · rw [h h0]; exact evp h0 (Ev.bind d2 (Ev.now _))
    · rw [h' h0]; exact evn h0 (Ev.bind c2 (Ev.now _))
  by_cases h0 : r = 0
  · by_cases h1 : s = 0
    · obtain ⟨p, L, rfl, rfl, h⟩ := c3 h0
      obtain ⟨q, M, hq, rfl, hM⟩ := d3 h1
      obtain rfl : p = q := by omega
      by_cases hl : L.length = M.length
      · exact ⟨_, _, convolve_ev h hM hl, rconvolve_ev h hM hl, by rw [cl_length, conv_length]; have := h.len; omega⟩
      · exact ⟨[], 2, Ev.congr (fun k => fourier_Convolve.f.eq_1 k _ _ _) (Ev.bind c1 (evp h0 (Ev.bind d1 (evp h1 (evn (by rw [cl_length, cl_length]; omega) (Ev.now _)))))), Ev.congr (fun k => fringeref11_Convolve.f.eq_1 k _ _ _) (Ev.bind (b2 (fun _ => rfl) (fun h => absurd h0 h)) (evp h1 (evn (by rw [cl_length, cl_length]; omega) (Ev.now _)))), by simp⟩
    · exact ⟨[], s, Ev.congr (fun k => fourier_Convolve.f.eq_1 k _ _ _) (Ev.bind c1 (evp h0 (Ev.bind d1 (evn h1 (Ev.now _))))), Ev.congr (fun k => fringeref11_Convolve.f.eq_1 k _ _ _) (Ev.bind (b2 (fun _ => rfl) (fun h => absurd h0 h)) (evn h1 (Ev.bind (b2 (fun _ => rfl) (fun h => absurd h0 h)) (Ev.now _)))), by simp⟩
  · exact ⟨[], r, Ev.congr (fun k => fourier_Convolve.f.eq_1 k _ _ _) (Ev.bind c1 (evn h0 (Ev.now _))), Ev.congr (fun k => fringeref11_Convolve.f.eq_1 k _ _ _) (Ev.bind (b2 (fun h => absurd h h0) (fun _ => rfl)) (evn h0 (Ev.bind (b2 (fun h => absurd h h0) (fun _ => rfl)) (Ev.now _)))), by simp⟩
end Go.Proofs.Ytbeidonfmeengaa.FL
