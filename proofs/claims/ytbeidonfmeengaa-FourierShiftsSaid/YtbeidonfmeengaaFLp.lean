/- The transform, its inverse, convolutions, turns and phases: what the program's and the reference's loops come to, for every input. -/
import Derived.Test.YtbeidonfmeengaaRL3fp
import Derived.Test.YtbeidonfmeengaaFM
import Derived.Test.YtbeidonfmeengaaPAllx4
import Derived.Test.YtbeidonfmeengaaPAllx3
import Derived.Test.YtbeidonfmeengaaPAllx6
set_option linter.unusedVariables false
set_option linter.unusedSimpArgs false
set_option linter.unusedSectionVars false
namespace Go.Proofs.Ytbeidonfmeengaa.FL
open Go Go.RowKit Go.Proofs.Ytbeidonfmeengaa.PAll Go.Proofs.YtbeidonfmeengaaW.PrintWords Go.Proofs.YtbeidonfmeengaaW.PrintLast RM FM Go.Proofs.Ytbeidonfmeengaa.RL

/-- A modulus and a list that is valid for it. -/
structure Fit (p : Nat) (L : List Nat) : Prop where
  pr : Pr p
  le : p ≤ 2000000000
  pos : 1 ≤ L.length
  len : L.length ≤ 64
  dvd : L.length ∣ p - 1
  lt : ∀ x ∈ L, x < p
theorem cl_get (L : List Nat) (i : Nat) : rd (cl L) (i : Int) = (at_ L i : Int) := by
  by_cases h : i < L.length
  · rw [rd_cl L i h]; simp [at_, List.getD_eq_getElem?_getD, h]
  · simp [rd, cl, at_, List.getD_eq_getElem?_getD, Nat.le_of_not_lt h]
theorem exists_cl : ∀ (l : List Int), (∀ x ∈ l, 0 ≤ x) → ∃ L : List Nat, l = cl L
  | [], _ => ⟨[], rfl⟩
  | x :: l, h => by
    obtain ⟨L, rfl⟩ := exists_cl l (fun y hy => h y (List.mem_cons_of_mem _ hy))
    obtain ⟨n, rfl⟩ := Int.eq_ofNat_of_zero_le (h x List.mem_cons_self)
    exact ⟨n :: L, rfl⟩
/-! checks -/
theorem min_loop (l : List Int) (hl : l.length ≤ 2000000000) : ∀ (m i : Nat) (a : Int), i + m = l.length → ∃ r, Ev (fun k => slices_Min_int64_int64.l0 k l a i) r ∧ (r < 0 ↔ a < 0 ∨ ∃ x ∈ l.drop i, x < 0) := by
  intro m
  induction m with
  | zero =>
    intro i a hi
    refine ⟨a, Ev.step (fun k => slices_Min_int64_int64.l0.eq_2 _ _ _ k) (evn (by omega) (Ev.now _)), ?_⟩
    rw [List.drop_eq_nil_of_le (by omega)]
    simp
  | succ m ih =>
    intro i a hi
    obtain ⟨r, h1, h2⟩ := ih (i + 1) (mn a (rd l i)) (by omega)
    refine ⟨r, Ev.step (fun k => slices_Min_int64_int64.l0.eq_2 _ _ _ k) (evp (by omega) (evp (by omega) ?_)), ?_⟩
    · rw [succ1 (by omega)]; exact h1
    · have hlt : i < l.length := by omega
      have e : rd l (i : Int) = l[i] := by simp [rd, List.getD_eq_getElem?_getD, hlt]
      rw [h2, List.drop_eq_getElem_cons hlt, e]
      have hm : mn a l[i] < 0 ↔ a < 0 ∨ l[i] < 0 := by unfold mn; split <;> omega
      rw [hm]
      simp only [List.mem_cons, or_and_right, exists_or, exists_eq_left, or_assoc]
theorem max_loop (l : List Int) (p : Int) (hl : l.length ≤ 2000000000) : ∀ (m i : Nat) (a : Int), i + m = l.length → ∃ r, Ev (fun k => slices_Max_int64_int64.l0 k l a i) r ∧ (r ≥ p ↔ a ≥ p ∨ ∃ x ∈ l.drop i, x ≥ p) := by
  intro m
  induction m with
  | zero =>
    intro i a hi
    refine ⟨a, Ev.step (fun k => slices_Max_int64_int64.l0.eq_2 _ _ _ k) (evn (by omega) (Ev.now _)), ?_⟩
    rw [List.drop_eq_nil_of_le (by omega)]
    simp
  | succ m ih =>
    intro i a hi
    obtain ⟨r, h1, h2⟩ := ih (i + 1) (mx a (rd l i)) (by omega)
    refine ⟨r, Ev.step (fun k => slices_Max_int64_int64.l0.eq_2 _ _ _ k) (evp (by omega) (evp (by omega) ?_)), ?_⟩
    · rw [succ1 (by omega)]; exact h1
    · have hlt : i < l.length := by omega
      have e : rd l (i : Int) = l[i] := by simp [rd, List.getD_eq_getElem?_getD, hlt]
      rw [h2, List.drop_eq_getElem_cons hlt, e]
      have hm : mx a l[i] ≥ p ↔ a ≥ p ∨ l[i] ≥ p := by unfold mx; split <;> omega
      rw [hm]
      simp only [List.mem_cons, or_and_right, exists_or, exists_eq_left, or_assoc]
theorem Min_ev {l : List Int} (h1 : 1 ≤ l.length) (hl : l.length ≤ 2000000000) : ∃ r, Ev (fun k => slices_Min_int64_int64.f k l) r ∧ (r < 0 ↔ ∃ x ∈ l, x < 0) := by
  obtain ⟨r, e, h⟩ := min_loop l hl (l.length - 1) 1 (rd l 0) (by omega)
  refine ⟨r, Ev.congr (fun k => slices_Min_int64_int64.f.eq_1 k _) (evn (by omega) (evp (by omega) e)), ?_⟩
  rw [h]
  obtain ⟨x, t, rfl⟩ : ∃ x t, l = x :: t := by cases l with | nil => simp at h1 | cons x t => exact ⟨x, t, rfl⟩
  simp [rd]
theorem Max_ev {l : List Int} (p : Int) (h1 : 1 ≤ l.length) (hl : l.length ≤ 2000000000) : ∃ r, Ev (fun k => slices_Max_int64_int64.f k l) r ∧ (r ≥ p ↔ ∃ x ∈ l, x ≥ p) := by
  obtain ⟨r, e, h⟩ := max_loop l p hl (l.length - 1) 1 (rd l 0) (by omega)
  refine ⟨r, Ev.congr (fun k => slices_Max_int64_int64.f.eq_1 k _) (evn (by omega) (evp (by omega) e)), ?_⟩
  rw [h]
  obtain ⟨x, t, rfl⟩ : ∃ x t, l = x :: t := by cases l with | nil => simp at h1 | cons x t => exact ⟨x, t, rfl⟩
  simp [rd]
theorem rc_loop (p : Int) (l : List Int) (hl : l.length ≤ 2000000000) : ∀ (m i : Nat), i + m = l.length →
    ((∀ x ∈ l.drop i, 0 ≤ x ∧ x < p) → Ev (fun k => fringeref11_Check.l0 k p l i) 0) ∧ (¬ (∀ x ∈ l.drop i, 0 ≤ x ∧ x < p) → Ev (fun k => fringeref11_Check.l0 k p l i) 8) := by
  intro m
  induction m with
  | zero =>
    intro i hi
    rw [List.drop_eq_nil_of_le (by omega)]
    exact ⟨fun _ => Ev.step (fun k => fringeref11_Check.l0.eq_2 _ _ _ k) (evn (by omega) (Ev.now _)), fun h => absurd (by simp) h⟩
  | succ m ih =>
    intro i hi
    obtain ⟨h1, h2⟩ := ih (i + 1) (by omega)
    have hlt : i < l.length := by omega
    have e : rd l (i : Int) = l[i] := by simp [rd, List.getD_eq_getElem?_getD, hlt]
    have hs : ∀ {r : Int} {f : Nat → Option Int}, Ev (fun k => if l[i] < 0 then some 8 else if l[i] ≥ p then some 8 else fringeref11_Check.l0 k p l ((i + 1 : Nat) : Int)) r → Ev (fun k => fringeref11_Check.l0 k p l i) r := fun {r f} h => by
      refine Ev.step (fun k => fringeref11_Check.l0.eq_2 _ _ _ k) (evp (by omega) (evp (by omega) ?_))
      rw [e, succ1 (by omega)]
      exact h
    rw [List.drop_eq_getElem_cons hlt]
    constructor
    · intro h
      have h0 := h l[i] List.mem_cons_self
      exact hs (f := fun _ => none) (evn (by omega) (evn (by omega) (h1 fun x hx => h x (List.mem_cons_of_mem _ hx))))
    · intro h
      refine hs (f := fun _ => none) ?_
      by_cases c1 : l[i] < 0
      · exact evp c1 (Ev.now _)
      by_cases c2 : l[i] ≥ p
      · exact evn c1 (evp c2 (Ev.now _))
      · exact evn c1 (evn c2 (h2 fun hh => h fun x hx => by
          rcases List.mem_cons.1 hx with rfl | hx
          · omega
          · exact hh x hx))
/-- What the checks come to, in both texts. -/
theorem check_all11 (a : Int) (l : List Int) : ∃ r, Ev (fun k => fourier_Check.f k a l) r ∧ Ev (fun k => fringeref11_Check.f k a l) r ∧ (r = 0 → ∃ p L, a = ((p : Nat) : Int) ∧ l = cl L ∧ Fit p L) := by
  have h1 : ∀ k, fourier_Check.f k a l = _ := fun k => fourier_Check.f.eq_1 k _ _
  have h2 : ∀ k, fringeref11_Check.f k a l = _ := fun k => fringeref11_Check.f.eq_1 k _ _
  by_cases hm : Mod a
  · have c1 := (ring_Check_ev a).1 hm
    have c2 := (refCheck_ev a).1 hm
    have j1 : Ev (fun k => fourier_Check.j0 k a l true) 4 := Ev.step (fun k => fourier_Check.j0.eq_2 _ _ _ k) (evp rfl (Ev.now _))
    have j2 : Ev (fun k => fringeref11_Check.j0 k a l true) 4 := Ev.step (fun k => fringeref11_Check.j0.eq_2 _ _ _ k) (evp rfl (Ev.now _))
    by_cases l0 : l.length = 0
    · exact ⟨4, Ev.congr h1 (Ev.bind c1 (evp rfl (evp (by omega) j1))), Ev.congr h2 (Ev.bind c2 (evp rfl (evp (by omega) j2))), fun h => by cases h⟩
    by_cases l64 : l.length > 64
    · refine ⟨4, Ev.congr h1 (Ev.bind c1 (evp rfl (evn (by omega) ?_))), Ev.congr h2 (Ev.bind c2 (evp rfl (evn (by omega) ?_))), fun h => by cases h⟩
      · rw [decide_eq_true (by omega)]; exact j1
      · rw [decide_eq_true (by omega)]; exact j2
    obtain ⟨p, rfl, hp2, hp⟩ := hm
    have hp0 := hp.1
    have e1 := pred1 hp0 hp2
    have s1 : ∀ {r}, Ev (fun k => if Int.tmod ((p - 1 : Nat) : Int) (l.length : Int) > 0 then some 6 else ((slices_Min_int64_int64.f k l).bind fun t106 => (if t106 < 0 then (some 8) else ((slices_Max_int64_int64.f k l).bind fun t107 => (if t107 ≥ (p : Int) then (some 8) else (some 0)))))) r → Ev (fun k => fourier_Check.f k p l) r := fun h => by
      refine Ev.congr h1 (Ev.bind c1 (evp rfl (evn (by omega) ?_)))
      rw [decide_eq_false (by omega)]
      refine Ev.step (fun k => fourier_Check.j0.eq_2 _ _ _ k) (evn (by decide) (evn (by omega) ?_))
      rw [e1]
      exact h
    have s2 : ∀ {r}, Ev (fun k => if Int.tmod ((p - 1 : Nat) : Int) (l.length : Int) = 0 then fringeref11_Check.l0 k p l 0 else some 6) r → Ev (fun k => fringeref11_Check.f k p l) r := fun h => by
      refine Ev.congr h2 (Ev.bind c2 (evp rfl (evn (by omega) ?_)))
      rw [decide_eq_false (by omega)]
      refine Ev.step (fun k => fringeref11_Check.j0.eq_2 _ _ _ k) (evn (by decide) (evn (by omega) ?_))
      rw [e1]
      exact h
    rw [tmodN] at s1 s2
    by_cases hd : (p - 1) % l.length = 0
    · obtain ⟨mi, m1, m2⟩ := Min_ev (l := l) (by omega) (by omega)
      obtain ⟨ma, n1, n2⟩ := Max_ev (l := l) (p : Int) (by omega) (by omega)
      have hr := rc_loop p l (by omega) l.length 0 (Nat.zero_add _)
      rw [List.drop_zero] at hr
      by_cases ok : ∀ x ∈ l, 0 ≤ x ∧ x < (p : Int)
      · refine ⟨0, s1 (evn (by omega) (Ev.bind m1 (evn (fun h => ?_) (Ev.bind n1 (evn (fun h => ?_) (Ev.now _)))))), s2 (evp (by omega) (hr.1 ok)), fun _ => ?_⟩
        · obtain ⟨x, hx, h0⟩ := m2.1 h; have := ok x hx; omega
        · obtain ⟨x, hx, h0⟩ := n2.1 h; have := ok x hx; omega
        · obtain ⟨L, rfl⟩ := exists_cl l (fun x hx => (ok x hx).1)
          rw [cl_length] at l0 l64 hd
          refine ⟨p, L, rfl, rfl, hp, hp2, Nat.pos_of_ne_zero l0, Nat.le_of_not_lt l64, Nat.dvd_of_mod_eq_zero hd, fun x hx => ?_⟩
          have := (ok (x : Int) (List.mem_map_of_mem hx)).2
          omega
      · refine ⟨8, s1 (evn (by omega) (Ev.bind m1 ?_)), s2 (evp (by omega) (hr.2 ok)), fun h => by cases h⟩
        by_cases c : mi < 0
        · exact evp c (Ev.now _)
        · refine evn c (Ev.bind n1 (evp (n2.2 ?_) (Ev.now _)))
          refine Classical.byContradiction fun hn => ok fun x hx => ⟨?_, ?_⟩
          · exact Int.not_lt.1 fun h => c (m2.2 ⟨x, hx, h⟩)
          · exact Int.not_le.1 fun h => hn ⟨x, hx, h⟩
    · have hpos : 0 < (p - 1) % l.length := Nat.pos_of_ne_zero hd
      exact ⟨6, s1 (evp (by omega) (Ev.now _)), s2 (evn (by omega) (Ev.now _)), fun h => by cases h⟩
  · exact ⟨2, Ev.congr h1 (Ev.bind ((ring_Check_ev a).2 hm) (evn (by decide) (Ev.now _))), Ev.congr h2 (Ev.bind ((refCheck_ev a).2 hm) (evn (by decide) (Ev.now _))), fun h => by cases h⟩
/-! the transform -/
noncomputable def rt (p n : Nat) : Nat := gen p ^ ((p - 1) / n) % p
noncomputable def iv (p n : Nat) : Nat := rt p n ^ (n - 1) % p
def pt (p n : Nat) : Nat := n ^ (p - 2) % p
noncomputable def bwd (p : Nat) (L : List Nat) : List Nat := tab L.length fun i => at_ (fwd p (iv p L.length) L) i * pt p L.length % p
theorem cl_tab (n : Nat) (f : Nat → Nat) : cl (tab n f) = (List.range n).map fun i => (f i : Int) := by simp [cl, tab]
theorem cl_set (n i v : Nat) (f : Nat → Nat) : (cl (tab n f)).set i (v : Int) = cl (tab n fun j => if j = i then v else f j) := by
  refine List.ext_getElem (by simp [cl, tab]) fun j h1 h2 => ?_
  rw [List.getElem_set]
  simp only [cl, tab, List.getElem_map, List.getElem_range]
  by_cases e : j = i
  · rw [if_pos e, if_pos e.symm]
  · rw [if_neg e, if_neg (fun h => e h.symm)]
theorem cl_zeros (n : Nat) : List.replicate n (0 : Int) = cl (tab n fun _ => 0) := by
  refine List.ext_getElem (by simp [cl, tab]) fun j h1 h2 => ?_
  simp [cl, tab]
section
variable {p : Nat} (hp : Pr p) (hp2 : p ≤ 2000000000)
include hp hp2
theorem tm {a : Int} {b : Nat} (h : a = (b : Int)) (hb : b ≤ 9000000000000000000) : Int.tmod (wrap64 a) (p : Int) = ((b % p : Nat) : Int) := by
  subst h
  rw [w64N (by omega), tmodN]
theorem rt_ord {n : Nat} (hn : 1 ≤ n) (hd : n ∣ p - 1) : Ord p (rt p n) n := root_ord hp (gen_ord hp) hn hd
theorem rt_lt (n : Nat) : rt p n < p := Nat.mod_lt _ (by have := hp.1; omega)
theorem iv_lt (n : Nat) : iv p n < p := Nat.mod_lt _ (by have := hp.1; omega)
theorem n_lt {n : Nat} (hn : 1 ≤ n) (hd : n ∣ p - 1) : n < p := by
  have := Nat.le_of_dvd (by have := hp.1; omega) hd
  have := hp.1
  omega
theorem pt_mul {n : Nat} (hn : 1 ≤ n) (hd : n ∣ p - 1) : n * pt p n % p = 1 := fermat_inv hp (hp.not_dvd_lt (by omega) (n_lt hp hp2 hn hd))
theorem rt_pos {n : Nat} (hn : 1 ≤ n) (hd : n ∣ p - 1) : 1 ≤ rt p n := by
  have h := ndvd hp (rt_ord hp hp2 hn hd)
  exact Nat.pos_of_ne_zero fun e => h (e ▸ Nat.dvd_zero p)
theorem iv_eq {n : Nat} (hn : 1 ≤ n) (hd : n ∣ p - 1) : rt p n ^ (p - 2) % p = iv p n := by
  have hO := rt_ord hp hp2 hn hd
  have h := ndvd hp hO
  have hp0 := hp.1
  exact inv_unique hp h (Nat.mod_lt _ (by omega)) (iv_lt hp hp2 n) (fermat_inv hp h) (inv_pow hp0 hO)
theorem ats_eq {w : Nat} (hw : w < p) : ∀ k, fourier_transform.ats p w k = ((w ^ k % p : Nat) : Int)
  | 0 => by rw [fourier_transform.ats, Nat.pow_zero, Nat.mod_eq_of_lt (by have := hp.1; omega)]; rfl
  | k + 1 => by
    have h1 := Nat.mod_lt (w ^ k) (show 0 < p by have := hp.1; omega)
    rw [fourier_transform.ats, ats_eq hw k, tm hp hp2 (b := w ^ k % p * w) (by simp) (Nat.le_trans (mul_lt h1 hw hp2) (by decide)), Nat.pow_succ]
    congr 1
    exact mmod (mm _ _) rfl
theorem horn_eq {t : Nat} (ht : t < p) : ∀ L : List Nat, (∀ x ∈ L, x < p) → fourier_transform.horn p t (cl L) = (hor p t L : Int) ∧ hor p t L < p
  | [], _ => ⟨rfl, by have := hp.1; show 0 < p; omega⟩
  | x :: L, h => by
    obtain ⟨e, hl⟩ := horn_eq ht L (fun y hy => h y (List.mem_cons_of_mem _ hy))
    have hx := h x List.mem_cons_self
    have hm := mul_lt hl ht hp2
    refine ⟨?_, Nat.mod_lt _ (by omega)⟩
    rw [cl_cons, fourier_transform.horn, e, hor]
    rw [show wrap64 ((hor p t L : Int) * (t : Int)) = ((hor p t L * t : Nat) : Int) by rw [mulN, w64N (by omega)]]
    exact tm hp hp2 (by simp) (by omega)
theorem oddf_eq {w : Nat} (hw : w < p) {L : List Nat} (hL : ∀ x ∈ L, x < p) : fourier_transform.oddf p w (cl L) = cl (fwd p w L) := by
  have e : fwd p w L = tab L.length fun k => hor p (w ^ k % p) L := by
    rw [← tab_at (fwd p w L), fwd_length]
    exact tab_congr fun k hk => fwd_hor hk
  rw [e, cl_tab, fourier_transform.oddf, cl_length]
  refine List.map_congr_left fun k hk => ?_
  rw [ats_eq hp hp2 hw, (horn_eq hp hp2 (Nat.mod_lt _ (by have := hp.1; omega)) L hL).1]
theorem xk_eq {w : Nat} (hw : w < p) {B : List Nat} (hB : ∀ x ∈ B, x < p) (k : Nat) : fourier_transform.xk p w (cl B) k = ((w ^ k % p * at_ B k % p : Nat) : Int) := by
  have hp0 := hp.1
  rw [fourier_transform.xk, ats_eq hp hp2 hw, cl_get]
  exact tm hp hp2 (by simp) (Nat.le_trans (mul_lt (Nat.mod_lt _ (by omega)) (at_lt hB (by omega) k) hp2) (by decide))
theorem lo_eq {w : Nat} (hw : w < p) {A B : List Nat} (hA : ∀ x ∈ A, x < p) (hB : ∀ x ∈ B, x < p) (k : Nat) : fourier_transform.lo p w (cl A) (cl B) k = (((at_ A k + w ^ k % p * at_ B k % p) % p : Nat) : Int) := by
  have hp0 := hp.1
  have h1 := at_lt hA (by omega) k
  have h2 := Nat.mod_lt (w ^ k % p * at_ B k) (show 0 < p by omega)
  rw [fourier_transform.lo, xk_eq hp hp2 hw hB, cl_get]
  exact tm hp hp2 (by simp) (by omega)
theorem hi_eq {w : Nat} (hw : w < p) {A B : List Nat} (hA : ∀ x ∈ A, x < p) (hB : ∀ x ∈ B, x < p) (k : Nat) : fourier_transform.hi p w (cl A) (cl B) k = (((at_ A k + p - w ^ k % p * at_ B k % p) % p : Nat) : Int) := by
  have hp0 := hp.1
  have h1 := at_lt hA (by omega) k
  have h2 := Nat.mod_lt (w ^ k % p * at_ B k) (show 0 < p by omega)
  rw [fourier_transform.hi, xk_eq hp hp2 hw hB, cl_get, w64 (x := (at_ A k : Int) - ((w ^ k % p * at_ B k % p : Nat) : Int)) (by omega) (by omega)]
  exact tm hp hp2 (by omega) (by omega)
theorem out_eq {w m : Nat} (hw : w < p) {A B : List Nat} (hA : ∀ x ∈ A, x < p) (hB : ∀ x ∈ B, x < p) : ∀ j, j ≤ m → fourier_transform.out p w (cl A) (cl B) m j =
    cl (tab (2 * m) fun i => if i < j then (at_ A i + w ^ i % p * at_ B i % p) % p else if m ≤ i ∧ i < m + j then (at_ A (i - m) + p - w ^ (i - m) % p * at_ B (i - m) % p) % p else 0)
  | 0, _ => by
    rw [fourier_transform.out, cl_zeros]
    congr 1
    refine tab_congr fun i _ => ?_
    rw [if_neg (by omega), if_neg (by omega)]
  | j + 1, h => by
    rw [fourier_transform.out, out_eq hw hA hB j (by omega), lo_eq hp hp2 hw hA hB, hi_eq hp hp2 hw hA hB, cl_set, cl_set]
    congr 1
    refine tab_congr fun i _ => ?_
    by_cases c1 : i = j + m
    · subst c1
      rw [if_pos rfl, if_neg (by omega), if_pos (by omega), Nat.add_sub_cancel]
    · rw [if_neg c1]
      by_cases c2 : i = j
      · subst c2
        rw [if_pos rfl, if_pos (by omega)]
      · rw [if_neg c2]
        by_cases c3 : i < j
        · rw [if_pos c3, if_pos (by omega)]
        · rw [if_neg c3, if_neg (show ¬ i < j + 1 by omega)]
          by_cases c4 : m ≤ i ∧ i < m + j
          · rw [if_pos c4, if_pos (show m ≤ i ∧ i < m + (j + 1) by omega)]
          · rw [if_neg c4, if_neg (show ¬ (m ≤ i ∧ i < m + (j + 1)) by omega)]
theorem tr_loop {w m : Nat} {L : List Nat} (hl : L.length = 2 * m) (hm : m ≤ 1000) {r : List Int} (hr : Ev (fun k => (fourier_transform.f k p (Int.tmod (wrap64 ((w : Int) * w)) p) (cl (evens L))).bind fun a => (fourier_transform.f k p (Int.tmod (wrap64 ((w : Int) * w)) p) (cl (odds L))).bind fun b => fourier_transform.fin [(p : Int)] ((2 * m : Nat) : Int) w a b) r) :
    ∀ (d j : Nat), j + d = m → Ev (fun k => fourier_transform.l0 k w (cl L) [(p : Int)] ((2 * m : Nat) : Int) (cl (tab j fun i => at_ L (2 * i))) (cl (tab j fun i => at_ L (2 * i + 1))) ((2 * j : Nat) : Int)) r := by
  have hp0 := hp.1
  intro d
  induction d with
  | zero =>
    intro j hj
    have : j = m := by omega
    subst this
    refine Ev.step (fun k => fourier_transform.l0.eq_2 _ _ _ _ _ _ _ k) (evn (by omega) (evp (by simp) ?_))
    rw [show rd [(p : Int)] 0 = (p : Int) from rfl]
    refine evn (by omega) ?_
    have e1 : evens L = tab j fun i => at_ L (2 * i) := by unfold evens; rw [hl, Nat.mul_div_cancel_left _ (by omega)]
    have e2 : odds L = tab j fun i => at_ L (2 * i + 1) := by unfold odds; rw [hl, Nat.mul_div_cancel_left _ (by omega)]
    rw [e1, e2] at hr
    exact hr
  | succ d ih =>
    intro j hj
    have ih := ih (j + 1) (by omega)
    refine Ev.step (fun k => fourier_transform.l0.eq_2 _ _ _ _ _ _ _ k) (evp (by omega) (evp (by omega) (evp (by rw [cl_length, hl]; omega) (Ev.bind (Ev.now _) (evp (by rw [cl_length, tab_length]; simp; omega) ?_)))))
    rw [succ1 (i := 2 * j) (by omega)]
    refine evp (by omega) (evp (by rw [cl_length, hl]; omega) (Ev.bind (Ev.now _) (evp (by rw [cl_length, tab_length]; simp; omega) ?_)))
    rw [cl_get, cl_get, show wrap64 (((2 * j : Nat) : Int) + 2) = ((2 * (j + 1) : Nat) : Int) by rw [w64 (by omega) (by omega)]; omega]
    rw [tab_succ, tab_succ, cl_append, cl_append] at ih
    exact ih
theorem transform_ev : ∀ (n : Nat) {w : Nat} {L : List Nat}, L.length = n → 1 ≤ n → n ≤ 1000 → (∀ x ∈ L, x < p) → w < p → Ord p w n → Ev (fun k => fourier_transform.f k p w (cl L)) (cl (fwd p w L)) := by
  have hp0 := hp.1
  intro n
  induction n using Nat.strongRecOn with
  | _ n ih =>
    intro w L hn h1 h2 hL hw hO
    by_cases hodd : n % 2 = 1
    · refine Ev.step (fun k => fourier_transform.f.eq_2 _ _ _ k) (evp (by rw [cl_length]; omega) (evn (by omega) (evp (by rw [cl_length]; omega) ?_)))
      rw [oddf_eq hp hp2 hw hL]
      exact Ev.now _
    · obtain ⟨m, rfl⟩ : ∃ m, n = 2 * m := ⟨n / 2, by omega⟩
      have hm : 1 ≤ m := by omega
      have hww : Int.tmod (wrap64 ((w : Int) * w)) (p : Int) = ((w * w % p : Nat) : Int) := tm hp hp2 (by simp) (Nat.le_trans (mul_lt hw hw hp2) (by decide))
      have le : (evens L).length = m := by rw [evens, tab_length, hn]; omega
      have lo : (odds L).length = m := by rw [odds, tab_length, hn]; omega
      have hE : ∀ x ∈ evens L, x < p := by
        intro x hx
        simp only [evens, tab, List.mem_map] at hx
        obtain ⟨i, _, rfl⟩ := hx
        exact at_lt hL (by omega) _
      have hD : ∀ x ∈ odds L, x < p := by
        intro x hx
        simp only [odds, tab, List.mem_map] at hx
        obtain ⟨i, _, rfl⟩ := hx
        exact at_lt hL (by omega) _
      have hq := ord_sq hp0 hm hO
      have hqlt := Nat.mod_lt (w * w) (show 0 < p by omega)
      have i1 := ih m (by omega) le hm (by omega) hE hqlt hq
      have i2 := ih m (by omega) lo hm (by omega) hD hqlt hq
      have hfin : fourier_transform.fin [(p : Int)] ((2 * m : Nat) : Int) w (cl (fwd p (w * w % p) (evens L))) (cl (fwd p (w * w % p) (odds L))) = some (cl (fwd p w L)) := by
        unfold fourier_transform.fin
        rw [cl_length, cl_length, fwd_length, fwd_length, le, lo, if_pos ⟨rfl, by omega, hm, by omega⟩, show rd [(p : Int)] 0 = (p : Int) from rfl,
          out_eq hp hp2 hw (fwd_lt (by omega) _) (fwd_lt (by omega) _) m (Nat.le_refl m)]
        congr 2
        refine eq_of_at (by rw [tab_length, fwd_length, hn]) fun i hi => ?_
        rw [tab_length] at hi
        rw [at_tab _ hi]
        by_cases c : i < m
        · rw [if_pos c, fwd_low hn c]
        · rw [if_neg c, if_pos (by omega)]
          have := fwd_high hp hn hO (k := i - m) (by omega)
          rw [show i - m + m = i by omega] at this
          exact this.symm
      have hd : wrap64 (((cl L).length : Int) / 2) = (m : Int) := by rw [cl_length, hn, w64 (by omega) (by omega)]; omega
      refine Ev.step (fun k => fourier_transform.f.eq_2 _ _ _ k) (evn (by rw [cl_length]; omega) ?_)
      rw [hd, cl_length, hn]
      refine evp (by omega) (evp (by omega) ?_)
      have h := tr_loop hp hp2 (w := w) hn (by omega) (r := cl (fwd p w L)) (by
        rw [hww]
        refine Ev.bind i1 (Ev.bind i2 ?_)
        rw [hfin]
        exact Ev.now _) m 0 (Nat.zero_add _)
      exact h
end
/-- The checks of what is valid. -/
theorem check_ok {p : Nat} {L : List Nat} (h : Fit p L) : Ev (fun k => fourier_Check.f k p (cl L)) 0 ∧ Ev (fun k => fringeref11_Check.f k p (cl L)) 0 := by
  have hm : Mod (p : Int) := ⟨p, rfl, h.le, h.pr⟩
  have hp0 := h.pr.1
  have e1 := pred1 hp0 h.le
  have hl0 := h.pos
  have hl1 := h.len
  have hok : ∀ x ∈ cl L, 0 ≤ x ∧ x < (p : Int) := by
    intro x hx
    simp only [cl, List.mem_map] at hx
    obtain ⟨y, hy, rfl⟩ := hx
    have := h.lt y hy
    omega
  have hd : Int.tmod ((p - 1 : Nat) : Int) ((cl L).length : Int) = 0 := by rw [cl_length, tmodN, Nat.mod_eq_zero_of_dvd h.dvd]; rfl
  constructor
  · obtain ⟨mi, m1, m2⟩ := Min_ev (l := cl L) (by rw [cl_length]; omega) (by rw [cl_length]; omega)
    obtain ⟨ma, n1, n2⟩ := Max_ev (l := cl L) (p : Int) (by rw [cl_length]; omega) (by rw [cl_length]; omega)
    refine Ev.congr (fun k => fourier_Check.f.eq_1 k _ _) (Ev.bind ((ring_Check_ev p).1 hm) (evp rfl (evn (by rw [cl_length]; omega) ?_)))
    rw [decide_eq_false (by rw [cl_length]; omega)]
    refine Ev.step (fun k => fourier_Check.j0.eq_2 _ _ _ k) (evn (by decide) (evn (by rw [cl_length]; omega) ?_))
    rw [e1, hd]
    refine evn (by decide) (Ev.bind m1 (evn (fun hh => ?_) (Ev.bind n1 (evn (fun hh => ?_) (Ev.now _)))))
    · obtain ⟨x, hx, h0⟩ := m2.1 hh; have := hok x hx; omega
    · obtain ⟨x, hx, h0⟩ := n2.1 hh; have := hok x hx; omega
  · refine Ev.congr (fun k => fringeref11_Check.f.eq_1 k _ _) (Ev.bind ((refCheck_ev p).1 hm) (evp rfl (evn (by rw [cl_length]; omega) ?_)))
    rw [decide_eq_false (by rw [cl_length]; omega)]
    refine Ev.step (fun k => fringeref11_Check.j0.eq_2 _ _ _ k) (evn (by decide) (evn (by rw [cl_length]; omega) ?_))
    rw [e1, hd]
    have hr := (rc_loop p (cl L) (by rw [cl_length]; omega) (cl L).length 0 (Nat.zero_add _)).1
    rw [List.drop_zero] at hr
    exact evp rfl (hr hok)
/-! roots and their powers -/
section
variable {p : Nat} {L : List Nat} (h : Fit p L)
include h
theorem root_ev : Ev (fun k => fourier_root.f k p (cl L)) (rt p L.length : Int) := by
  refine Ev.congr (fun k => fourier_root.f.eq_1 k _ _) ?_
  rw [cl_length]
  exact Ev.bind (Root_ev h.pr h.le h.pos h.dvd).1 (Ev.now _)
theorem fit_ord : Ord p (rt p L.length) L.length := rt_ord h.pr h.le h.pos h.dvd
end
theorem pow_loop {p w n : Nat} (hp : Pr p) (hp2 : p ≤ 2000000000) (hw : w < p) (hn : n ≤ 1000) : ∀ (d j : Nat), j + 1 + d = n → Ev (fun k => fringeref11_powers.l0 k p w n (cl (tab (j + 1) fun i => w ^ i % p))) (cl (tab n fun i => w ^ i % p)) := by
  have hp0 := hp.1
  intro d
  induction d with
  | zero =>
    intro j hj
    have : n = j + 1 := by omega
    subst this
    exact Ev.step (fun k => fringeref11_powers.l0.eq_2 _ _ _ _ k) (evn (by rw [cl_length, tab_length]; omega) (Ev.now _))
  | succ d ih =>
    intro j hj
    have ih := ih (j + 1) (by omega)
    have hl : (cl (tab (j + 1) fun i => w ^ i % p)).length = j + 1 := by rw [cl_length, tab_length]
    have e : wrap64 (((cl (tab (j + 1) fun i => w ^ i % p)).length : Int) - 1) = (j : Int) := by rw [hl, w64 (by omega) (by omega)]; omega
    refine Ev.step (fun k => fringeref11_powers.l0.eq_2 _ _ _ _ k) ?_
    rw [e, hl]
    refine evp (by omega) (evp (by omega) (evp (by omega) (evn (by omega) (evp (by omega) ?_))))
    rw [cl_get, at_tab _ (by omega)]
    have hlt := Nat.mod_lt (w ^ j) (show 0 < p by omega)
    rw [tm hp hp2 (b := w ^ j % p * w) (by simp) (Nat.le_trans (mul_lt hlt hw hp2) (by decide))]
    rw [tab_succ, cl_append] at ih
    have e2 : w ^ j % p * w % p = w ^ (j + 1) % p := by rw [Nat.pow_succ]; exact mmod (mm _ _) rfl
    rw [e2]
    exact ih
theorem refroot_ev {p n : Nat} (hp : Pr p) (hp2 : p ≤ 2000000000) (hn : 1 ≤ n) (hn2 : n ≤ 1000) (hd : n ∣ p - 1) : Ev (fun k => fringeref11_root.f k p n) (cl (tab n fun i => rt p n ^ i % p)) := by
  have hp0 := hp.1
  refine Ev.congr (fun k => fringeref11_root.f.eq_1 k _ _) (Ev.bind (Root_ev hp hp2 hn hd).2 (Ev.bind ?_ (Ev.now _)))
  refine Ev.congr (fun k => fringeref11_powers.f.eq_1 k _ _ _) ?_
  have h := pow_loop hp hp2 (rt_lt hp hp2 n) hn2 (n - 1) 0 (by omega)
  have e : cl (tab (0 + 1) fun i => rt p n ^ i % p) = [1] := by
    show [((rt p n ^ 0 % p : Nat) : Int)] = [1]
    rw [Nat.pow_zero, Nat.mod_eq_of_lt (by omega)]
    rfl
  rw [e] at h
  exact h
theorem at_ev {a : Int} {n : Nat} (hn : 1 ≤ n) (hn2 : n ≤ 1000000) (h0 : -4000000000000 ≤ a) (h1 : a ≤ 4000000000000) : fringeref11_at.f a n = some (a % (n : Int)) := by
  have hb : 0 < (n : Int) := by omega
  have e1 := Int.mul_tdiv_add_tmod a n
  have e2 := Int.tmod_lt_of_pos a hb
  have e3 := Int.tmod_lt_of_pos (-a) hb
  rw [Int.neg_tmod] at e3
  unfold fringeref11_at.f
  rw [if_neg (by omega)]
  have key : ∀ r q : Int, (n : Int) * q + r = a → 0 ≤ r → r < n → a % n = r := fun r q e h0 h1 => by
    rw [← e, Int.add_comm, Int.add_mul_emod_self_left]
    exact Int.emod_eq_of_lt h0 h1
  by_cases c : Int.tmod a n < 0
  · rw [if_pos c, w64 (by omega) (by omega)]
    congr 1
    refine (key _ (Int.tdiv a n - 1) ?_ (by omega) (by omega)).symm
    rw [Int.mul_sub]
    omega
  · rw [if_neg c]
    exact congrArg some (key _ _ e1 (by omega) e2).symm
/-! the reference's sums -/
section
variable {p : Nat} (hp : Pr p) (hp2 : p ≤ 2000000000) {L W : List Nat} (hL : ∀ x ∈ L, x < p) (hW : ∀ x ∈ W, x < p) {n : Nat} (hn : L.length = n) (hWn : W.length = n) (h1 : 1 ≤ n) (h2 : n ≤ 1000)
include hp hp2 hL hW hn hWn h1 h2
/-- The index that the sums take. -/
def ix (n : Nat) (b : Bool) (j k : Nat) : Nat := if b then (((-((j * k : Nat) : Int)) % (n : Int))).toNat else j * k % n
theorem ix_lt (b : Bool) (j k : Nat) : ix n b j k < n := by
  unfold ix
  split
  · have := Int.emod_lt_of_pos (-((j * k : Nat) : Int)) (show (0 : Int) < n by omega)
    omega
  · exact Nat.mod_lt _ (by omega)
theorem sums_inner (b : Bool) {out : List Int} {k : Nat} (hk : k < n) {r : List Int} (hout : out.length ≤ 1000) (hr : Ev (fun f => fringeref11_sums.l0 f p (cl L) b n (cl W) (out ++ [((S n (fun j => at_ L j * at_ W (ix n b j k)) % p : Nat) : Int)]) ((k + 1 : Nat) : Int)) r) :
    ∀ (m j : Nat), j + m = n → Ev (fun f => fringeref11_sums.l1 f p (cl L) b n (cl W) out k ((S j (fun j => at_ L j * at_ W (ix n b j k)) % p : Nat) : Int) j) r := by
  have hp0 := hp.1
  intro m
  induction m with
  | zero =>
    intro j hj
    have : j = n := by omega
    subst this
    refine Ev.step (fun k => fringeref11_sums.l1.eq_2 _ _ _ _ _ _ _ _ _ k) (evn (by omega) (evp (by omega) ?_))
    rw [succ1 (by omega)]
    exact hr
  | succ m ih =>
    intro j hj
    have ih := ih (j + 1) (by omega)
    have hjk : j * k ≤ 1000 * 1000 := Nat.mul_le_mul (by omega) (by omega)
    have hix := ix_lt hp hp2 hL hW hn hWn h1 h2 b j k
    have hs := Nat.mod_lt (S j (fun j => at_ L j * at_ W (ix n b j k))) (show 0 < p by omega)
    have hm := mul_lt (at_lt hL (by omega) j) (at_lt hW (by omega) (ix n b j k)) hp2
    have hmul : wrap64 ((j : Int) * (k : Int)) = ((j * k : Nat) : Int) := by rw [mulN, w64N (by omega)]
    have hstep : Int.tmod (wrap64 (((S j (fun j => at_ L j * at_ W (ix n b j k)) % p : Nat) : Int) + wrap64 (rd (cl L) (j : Int) * rd (cl W) ((ix n b j k : Nat) : Int)))) (p : Int) = ((S (j + 1) (fun j => at_ L j * at_ W (ix n b j k)) % p : Nat) : Int) := by
      rw [cl_get, cl_get, mulN, w64N (by omega), tm hp hp2 (b := S j (fun j => at_ L j * at_ W (ix n b j k)) % p + at_ L j * at_ W (ix n b j k)) (by simp) (by omega), S_succ]
      congr 1
      exact amod (mm _ _) rfl
    refine Ev.step (fun k => fringeref11_sums.l1.eq_2 _ _ _ _ _ _ _ _ _ k) (evp (by omega) ?_)
    rw [hmul]
    cases b with
    | true =>
      have e : fringeref11_at.f (wrap64 (-((j * k : Nat) : Int))) (n : Int) = some ((ix n true j k : Nat) : Int) := by
        rw [w64 (by omega) (by omega), at_ev h1 (by omega) (by omega) (by omega)]
        have := Int.emod_nonneg (-((j * k : Nat) : Int)) (show (n : Int) ≠ 0 by omega)
        simp only [ix, if_true]
        congr 1
        omega
      refine evp rfl (evp (by omega) (evp (by rw [cl_length, hn]; omega) ?_))
      rw [e]
      refine Ev.bind (Ev.now _) (evp (by omega) (evp (by rw [cl_length, hWn]; omega) (evn (by omega) ?_)))
      rw [hstep, succ1 (by omega)]
      exact ih
    | false =>
      have e : fringeref11_at.f ((j * k : Nat) : Int) (n : Int) = some ((ix n false j k : Nat) : Int) := by
        rw [at_ev h1 (by omega) (by omega) (by omega)]
        simp [ix]
      refine evn (by decide) (evp (by omega) (evp (by rw [cl_length, hn]; omega) ?_))
      rw [e]
      refine Ev.bind (Ev.now _) (evp (by omega) (evp (by rw [cl_length, hWn]; omega) (evn (by omega) ?_)))
      rw [hstep, succ1 (by omega)]
      exact ih
theorem sums_outer (b : Bool) : ∀ (m k : Nat), k + m = n → Ev (fun f => fringeref11_sums.l0 f p (cl L) b n (cl W) (cl (tab k fun k => S n (fun j => at_ L j * at_ W (ix n b j k)) % p)) k) (cl (tab n fun k => S n (fun j => at_ L j * at_ W (ix n b j k)) % p)) := by
  intro m
  induction m with
  | zero =>
    intro k hk
    have : k = n := by omega
    subst this
    exact Ev.step (fun f => fringeref11_sums.l0.eq_2 _ _ _ _ _ _ _ f) (evn (by omega) (Ev.now _))
  | succ m ih =>
    intro k hk
    have ih := ih (k + 1) (by omega)
    rw [tab_succ, cl_append] at ih
    have h := sums_inner hp hp2 hL hW hn hWn h1 h2 b (show k < n by omega) (by rw [cl_length, tab_length]; omega) ih n 0 (Nat.zero_add _)
    exact Ev.step (fun f => fringeref11_sums.l0.eq_2 _ _ _ _ _ _ _ f) (evp (by omega) h)
end
theorem ix_back {p w n : Nat} (hp : Pr p) (hO : Ord p w n) (j k : Nat) : w ^ ix n true j k % p = (w ^ (n - 1) % p) ^ (j * k) % p := by
  have hn := hO.1
  rw [pow_mod_pow]
  refine pow_cong hp.1 hO ?_
  have h0 := Int.emod_nonneg (-((j * k : Nat) : Int)) (show (n : Int) ≠ 0 by omega)
  have h1 := Int.emod_lt_of_pos (-((j * k : Nat) : Int)) (show (0 : Int) < n by omega)
  have e : ((ix n true j k : Nat) : Int) = (-((j * k : Nat) : Int)) % (n : Int) := by simp only [ix, if_true]; omega
  have e3 : (((n - 1) * (j * k) : Nat) : Int) = -((j * k : Nat) : Int) + (n : Int) * ((j * k : Nat) : Int) := by
    rw [Int.natCast_mul, Int.natCast_sub hn, Int.sub_mul]
    omega
  have e4 : (((n - 1) * (j * k) % n : Nat) : Int) = ((ix n true j k : Nat) : Int) := by
    rw [e, Int.natCast_emod, e3, Int.add_mul_emod_self_left]
  have e5 : ix n true j k % n = ix n true j k := Nat.mod_eq_of_lt (by omega)
  omega
section
variable {p : Nat} {L : List Nat} (h : Fit p L)
include h
theorem sums_ev (b : Bool) : Ev (fun k => fringeref11_sums.f k p (cl L) b) (cl (fwd p (if b then iv p L.length else rt p L.length) L)) := by
  have hp0 := h.pr.1
  have hO := fit_ord h
  have hl := h.len
  refine Ev.congr (fun k => fringeref11_sums.f.eq_1 k _ _ _) ?_
  rw [cl_length]
  have hW : ∀ x ∈ tab L.length (fun i => rt p L.length ^ i % p), x < p := by
    intro x hx
    simp only [tab, List.mem_map] at hx
    obtain ⟨i, _, rfl⟩ := hx
    exact Nat.mod_lt _ (by omega)
  refine Ev.bind (refroot_ev h.pr h.le h.pos (by omega) h.dvd) ?_
  have key := sums_outer h.pr h.le h.lt hW rfl (tab_length _ _) h.pos (by omega) b L.length 0 (Nat.zero_add _)
  have e : tab L.length (fun k => S L.length (fun j => at_ L j * at_ (tab L.length (fun i => rt p L.length ^ i % p)) (ix L.length b j k)) % p) = fwd p (if b then iv p L.length else rt p L.length) L := by
    unfold fwd
    refine tab_congr fun k hk => S_mod fun j hj => ?_
    rw [at_tab _ (ix_lt h.pr h.le h.lt hW rfl (tab_length _ _) h.pos (by omega) b j k)]
    refine mmod rfl ((mm _ _).trans ?_)
    cases b with
    | true => exact ix_back h.pr hO j k
    | false => exact pow_mod_n hp0 hO (j * k)
  rw [e] at key
  exact key
theorem fwd_ev : Ev (fun k => fourier_transform.f k p ((rt p L.length : Nat) : Int) (cl L)) (cl (fwd p (rt p L.length) L)) := by
  have := h.len
  exact transform_ev h.pr h.le L.length rfl h.pos (by omega) h.lt (rt_lt h.pr h.le _) (fit_ord h)
theorem fwd_iv : Ev (fun k => fourier_transform.f k p ((iv p L.length : Nat) : Int) (cl L)) (cl (fwd p (iv p L.length) L)) := by
  have := h.len
  exact transform_ev h.pr h.le L.length rfl h.pos (by omega) h.lt (iv_lt h.pr h.le _) (ord_inv h.pr (fit_ord h))
theorem lenmod : ((cl L).length : Int) % (p : Int) = ((L.length : Nat) : Int) := by
  have := n_lt h.pr h.le h.pos h.dvd
  rw [cl_length]
  exact Int.emod_eq_of_lt (by omega) (by omega)
theorem Inv_root : Ev (fun k => ring_Inv.f k p (rt p L.length)) ((iv p L.length : Int), 0) := by
  rw [← iv_eq h.pr h.le h.pos h.dvd]
  exact (ring_Inv_ev h.pr h.le (rt_pos h.pr h.le h.pos h.dvd) (rt_lt h.pr h.le _)).1
theorem Inv_len : Ev (fun k => ring_Inv.f k p ((L.length : Nat) : Int)) ((pt p L.length : Int), 0) ∧ Ev (fun k => fringeref10_Inv.f k p ((L.length : Nat) : Int)) ((pt p L.length : Int), 0) :=
  ring_Inv_ev h.pr h.le h.pos (n_lt h.pr h.le h.pos h.dvd)
end
section
variable {p : Nat} (hp : Pr p) (hp2 : p ≤ 2000000000) {A : List Nat} (hA : ∀ x ∈ A, x < p) (hl : A.length ≤ 1000) {c : Nat} (hc : c < p)
include hp hp2 hA hl hc
theorem scale_step (i : Nat) (hi : i < A.length) : (cl (tab A.length fun j => if j < i then at_ A j * c % p else at_ A j)).set i (Int.tmod (wrap64 (rd (cl (tab A.length fun j => if j < i then at_ A j * c % p else at_ A j)) (i : Int) * (c : Int))) (p : Int)) = cl (tab A.length fun j => if j < i + 1 then at_ A j * c % p else at_ A j) := by
  have hp0 := hp.1
  rw [cl_get, at_tab _ hi, if_neg (Nat.lt_irrefl _), tm hp hp2 (b := at_ A i * c) (by simp) (Nat.le_trans (mul_lt (at_lt hA (by omega) i) hc hp2) (by decide)), cl_set]
  congr 1
  refine tab_congr fun j hj => ?_
  by_cases e : j = i
  · subst e
    rw [if_pos rfl, if_pos (by omega)]
  · rw [if_neg e]
    by_cases e2 : j < i
    · rw [if_pos e2, if_pos (by omega)]
    · rw [if_neg e2, if_neg (by omega)]
theorem back_loop : ∀ (m i : Nat), i + m = A.length → Ev (fun k => fourier_back.l0 k p c (cl (tab A.length fun j => if j < i then at_ A j * c % p else at_ A j)) (A.length : Int) i) (cl (tab A.length fun j => at_ A j * c % p)) := by
  have hp0 := hp.1
  intro m
  induction m with
  | zero =>
    intro i hi
    have : i = A.length := by omega
    subst this
    refine Ev.step (fun k => fourier_back.l0.eq_2 _ _ _ _ _ k) (evn (by omega) ?_)
    rw [tab_congr (g := fun j => at_ A j * c % p) (fun j hj => if_pos hj)]
    exact Ev.now _
  | succ m ih =>
    intro i hi
    have ih := ih (i + 1) (by omega)
    refine Ev.step (fun k => fourier_back.l0.eq_2 _ _ _ _ _ k) (evp (by omega) (evp (by omega) (evp (by rw [cl_length, tab_length]; omega) (evn (by omega) ?_))))
    rw [Int.toNat_natCast, scale_step hp hp2 hA hl hc i (by omega), succ1 (by omega)]
    exact ih
theorem rback_loop : ∀ (m i : Nat), i + m = A.length → Ev (fun k => fringeref11_Back.l0 k p (cl (tab A.length fun j => if j < i then at_ A j * c % p else at_ A j)) c i) (cl (tab A.length fun j => at_ A j * c % p), 0) := by
  have hp0 := hp.1
  intro m
  induction m with
  | zero =>
    intro i hi
    have : i = A.length := by omega
    subst this
    refine Ev.step (fun k => fringeref11_Back.l0.eq_2 _ _ _ _ k) (evn (by rw [cl_length, tab_length]; omega) ?_)
    rw [tab_congr (g := fun j => at_ A j * c % p) (fun j hj => if_pos hj)]
    exact Ev.now _
  | succ m ih =>
    intro i hi
    have ih := ih (i + 1) (by omega)
    refine Ev.step (fun k => fringeref11_Back.l0.eq_2 _ _ _ _ k) (evp (by rw [cl_length, tab_length]; omega) (evp (by omega) (evn (by omega) ?_)))
    rw [Int.toNat_natCast, scale_step hp hp2 hA hl hc i (by omega), succ1 (by omega)]
    exact ih
end
section
variable {p : Nat} {L : List Nat} (h : Fit p L)
include h
theorem back_ev : Ev (fun k => fourier_back.f k p (cl L)) (cl (bwd p L)) := by
  have hp0 := h.pr.1
  have hl := h.len
  refine Ev.congr (fun k => fourier_back.f.eq_1 k _ _) (Ev.bind (root_ev h) (Ev.bind (Inv_root h) (evn (by omega) ?_)))
  rw [lenmod h]
  refine Ev.bind (Inv_len h).1 (Ev.bind (fwd_iv h) ?_)
  have key := back_loop h.pr h.le (fwd_lt (by omega) (w := iv p L.length) L) (by rw [fwd_length]; omega) (c := pt p L.length) (Nat.mod_lt _ (by omega)) _ 0 (Nat.zero_add _)
  rw [tab_congr (g := at_ (fwd p (iv p L.length) L)) (fun j hj => if_neg (Nat.not_lt_zero j)), tab_at] at key
  rw [cl_length]
  have e : (tab (fwd p (iv p L.length) L).length fun j => at_ (fwd p (iv p L.length) L) j * pt p L.length % p) = bwd p L := by unfold bwd; rw [fwd_length]
  rw [e] at key
  exact key
theorem forward_ev : Ev (fun k => fourier_Forward.f k p (cl L)) (cl (fwd p (rt p L.length) L), 0) :=
  Ev.congr (fun k => fourier_Forward.f.eq_1 k _ _) (Ev.bind (check_ok h).1 (evp rfl (Ev.bind (root_ev h) (Ev.bind (fwd_ev h) (Ev.now _)))))
theorem rforward_ev : Ev (fun k => fringeref11_Forward.f k p (cl L)) (cl (fwd p (rt p L.length) L), 0) :=
  Ev.congr (fun k => fringeref11_Forward.f.eq_1 k _ _) (Ev.bind (check_ok h).2 (evp rfl (Ev.bind (sums_ev h false) (Ev.now _))))
theorem Back_ev : Ev (fun k => fourier_Back.f k p (cl L)) (cl (bwd p L), 0) :=
  Ev.congr (fun k => fourier_Back.f.eq_1 k _ _) (Ev.bind (check_ok h).1 (evp rfl (Ev.bind (back_ev h) (Ev.now _))))
theorem rBack_ev : Ev (fun k => fringeref11_Back.f k p (cl L)) (cl (bwd p L), 0) := by
  have hp0 := h.pr.1
  have hl := h.len
  refine Ev.congr (fun k => fringeref11_Back.f.eq_1 k _ _) (Ev.bind (check_ok h).2 (evp rfl (Ev.bind (sums_ev h true) (evn (by omega) ?_))))
  rw [lenmod h]
  refine Ev.bind (Inv_len h).2 ?_
  have key := rback_loop h.pr h.le (fwd_lt (by omega) (w := iv p L.length) L) (by rw [fwd_length]; omega) (c := pt p L.length) (Nat.mod_lt _ (by omega)) _ 0 (Nat.zero_add _)
  rw [tab_congr (g := at_ (fwd p (iv p L.length) L)) (fun j hj => if_neg (Nat.not_lt_zero j)), tab_at] at key
  have e : (tab (fwd p (iv p L.length) L).length fun j => at_ (fwd p (iv p L.length) L) j * pt p L.length % p) = bwd p L := by unfold bwd; rw [fwd_length]
  rw [e] at key
  exact key
theorem bwd_length : (bwd p L).length = L.length := tab_length _ _
theorem bwd_lt : ∀ x ∈ bwd p L, x < p := by
  intro x hx
  simp only [bwd, tab, List.mem_map] at hx
  obtain ⟨i, _, rfl⟩ := hx
  exact Nat.mod_lt _ (by have := h.pr.1; omega)
theorem Fit.other {M : List Nat} (hl : M.length = L.length) (hM : ∀ x ∈ M, x < p) : Fit p M := ⟨h.pr, h.le, by rw [hl]; exact h.pos, by rw [hl]; exact h.len, by rw [hl]; exact h.dvd, hM⟩
theorem Fit.fwd (w : Nat) : Fit p (fwd p w L) := Fit.other h (fwd_length _ _ _) (fwd_lt (by have := h.pr.1; omega) _)
theorem Fit.bwd : Fit p (bwd p L) := Fit.other h (bwd_length h) (bwd_lt h)
/-- The inverse transform of the transform is the list. -/
theorem bwd_fwd : FL.bwd p (FM.fwd p (rt p L.length) L) = L := by
  have hp0 := h.pr.1
  refine eq_of_at (by rw [bwd_length (Fit.fwd h _), fwd_length]) fun i hi => ?_
  rw [bwd_length (Fit.fwd h _), fwd_length] at hi
  rw [FL.bwd, at_tab _ (by rw [fwd_length]; exact hi), fwd_length]
  unfold iv
  rw [fwd_inv h.pr (fit_ord h) i hi]
  have e := pt_mul h.pr h.le h.pos h.dvd
  have hx := at_lt h.lt (by omega) i
  have : L.length * at_ L i % p * pt p L.length % p = at_ L i * (L.length * pt p L.length) % p := by
    refine (mmod (mm _ _) rfl).trans ?_
    rw [Nat.mul_comm L.length, Nat.mul_assoc]
  rw [this, ← pow_mod_mul_r, e, Nat.mul_one, Nat.mod_eq_of_lt hx]
/-- The transform of the inverse transform, too. -/
theorem fwd_bwd : FM.fwd p (rt p L.length) (FL.bwd p L) = L := by
  have hp0 := h.pr.1
  refine eq_of_at (by rw [fwd_length, bwd_length h]) fun i hi => ?_
  rw [fwd_length, bwd_length h] at hi
  rw [at_fwd (by rw [bwd_length h]; exact hi), bwd_length h]
  have h1 : S L.length (fun j => at_ (FL.bwd p L) j * rt p L.length ^ (j * i)) % p = S L.length (fun j => at_ (FM.fwd p (iv p L.length) L) j * rt p L.length ^ (j * i)) * pt p L.length % p := by
    rw [← S_mulr]
    refine S_mod fun j hj => ?_
    rw [FL.bwd, at_tab _ hj]
    refine (mmod (mm _ _) rfl).trans ?_
    rw [Nat.mul_right_comm]
  have h2 := fwd_inv h.pr (ord_inv h.pr (fit_ord h)) i hi
  rw [inv_inv h.pr (fit_ord h) (rt_lt h.pr h.le _), at_fwd (by rw [fwd_length]; exact hi), fwd_length] at h2
  change S L.length (fun j => at_ (FM.fwd p (iv p L.length) L) j * rt p L.length ^ (j * i)) % p = L.length * at_ L i % p at h2
  have e := pt_mul h.pr h.le h.pos h.dvd
  have hx := at_lt h.lt (by omega) i
  rw [h1, mmod h2 (show pt p L.length % p = pt p L.length % p from rfl), show L.length * at_ L i * pt p L.length = at_ L i * (L.length * pt p L.length) by rw [Nat.mul_comm L.length, Nat.mul_assoc], ← pow_mod_mul_r, e, Nat.mul_one, Nat.mod_eq_of_lt hx]
end
end Go.Proofs.Ytbeidonfmeengaa.FL
