import Derived.Test.YtbeidonfmeengaaRDp
import Derived.Test.YtbeidonfmeengaaRM
import Derived.Test.YtbeidonfmeengaaPAllx1
import Derived.Test.YtbeidonfmeengaaPAllx4
import Derived.Test.YtbeidonfmeengaaPAllx2
import Derived.Test.YtbeidonfmeengaaPAllx10
import Derived.Laws.BitsLemmas
set_option linter.unusedVariables false
set_option linter.unusedSimpArgs false
namespace Go.Proofs.Ytbeidonfmeengaa.RL
open Go Go.RowKit Go.Proofs.Ytbeidonfmeengaa.PAll Go.Proofs.YtbeidonfmeengaaW.PrintWords Go.Proofs.YtbeidonfmeengaaW.PrintLast RM

theorem w64 {x : Int} (h0 : -9223372036854775808 ≤ x) (h1 : x ≤ 9223372036854775807) : wrap64 x = x := by unfold wrap64; omega
theorem w64N {n : Nat} (h : n ≤ 9223372036854775807) : wrap64 (n : Int) = (n : Int) := w64 (by omega) (by omega)
theorem tdivN (a b : Nat) : Int.tdiv (a : Int) (b : Int) = ((a / b : Nat) : Int) := by rw [Int.tdiv_eq_ediv_of_nonneg (by omega)]; rfl
theorem tmodN (a b : Nat) : Int.tmod (a : Int) (b : Int) = ((a % b : Nat) : Int) := by rw [Int.tmod_eq_emod_of_nonneg (by omega)]; rfl
theorem le_div_iff {d p : Nat} (hd : 2 ≤ d) : d ≤ p / d ↔ d * d ≤ p := Nat.le_div_iff_mul_le (by omega)
theorem mulN (a b : Nat) : (a : Int) * (b : Int) = ((a * b : Nat) : Int) := by simp
theorem sq_le {d : Nat} (h : d ≤ 44722) : d * d ≤ 2000057284 := Nat.le_trans (Nat.mul_le_mul h h) (by decide)
theorem le_of_sq {d n : Nat} (h : d * d ≤ n) (hn : n ≤ 2000000000) : d ≤ 44721 := by
  by_cases hc : d ≤ 44721
  · exact hc
  · have : 44722 * 44722 ≤ d * d := Nat.mul_le_mul (by omega) (by omega)
    omega
theorem div_le_pred {n d : Nat} (hd : 2 ≤ d) (hn : 1 ≤ n) (hdn : d ∣ n) : n / d + 1 ≤ n := by
  have := Nat.div_lt_self hn hd
  omega

/-! the modulus' check -/
theorem check_loop (p : Nat) (hp : 2 ≤ p) (hp2 : p ≤ 2000000000) : ∀ (m d : Nat), p + 1 ≤ d + m → 2 ≤ d → d ≤ 44722 → (∀ e, 2 ≤ e → e < d → ¬ e ∣ p) →
    (Pr p → Ev (fun k => ring_Check.l0 k p d) 0) ∧ (¬ Pr p → Ev (fun k => ring_Check.l0 k p d) 2) := by
  intro m
  induction m with
  | zero =>
    intro d h1 h2 h3 hno
    exact absurd (Nat.dvd_refl p) (hno p hp (by omega))
  | succ m ih =>
    intro d h1 h2 h3 hno
    have e0 : ¬ ((d : Int) = 0) := by omega
    have e1 : wrap64 (Int.tdiv (p : Int) (d : Int)) = ((p / d : Nat) : Int) := by
      rw [tdivN, w64N (by have := Nat.div_le_self p d; omega)]
    have e2 := tmodN p d
    by_cases hsq : d * d ≤ p
    · have hle : (d : Int) ≤ ((p / d : Nat) : Int) := by have := (le_div_iff (p := p) h2).2 hsq; omega
      have h44 := le_of_sq hsq hp2
      by_cases hdv : d ∣ p
      · have e3 : ((p % d : Nat) : Int) = 0 := by have := Nat.mod_eq_zero_of_dvd hdv; omega
        have hnp : ¬ Pr p := fun hpr => by
          rcases hpr.2 d hdv with h | h
          · omega
          · subst h
            have : d * 2 ≤ d * d := Nat.mul_le_mul_left _ h2
            omega
        refine ⟨fun h => absurd h hnp, fun _ => Ev.step (f := fun _ => some 2) (fun k => ?_) (Ev.now 2)⟩
        simp only [ring_Check.l0]
        rw [if_neg e0, e1, if_pos hle, e2, if_pos e3]
      · have e3 : ¬ (((p % d : Nat) : Int) = 0) := by
          intro h
          exact hdv (Nat.dvd_of_mod_eq_zero (by omega))
        have e4 : wrap64 ((d : Int) + 1) = ((d + 1 : Nat) : Int) := by rw [w64 (by omega) (by omega)]; rfl
        have hr := ih (d + 1) (by omega) (by omega) (by omega) (fun e he1 he2 hed => by
          by_cases h : e = d
          · exact hdv (h ▸ hed)
          · exact hno e he1 (by omega) hed)
        have hs : ∀ k, ring_Check.l0 (k + 1) p d = ring_Check.l0 k p ((d + 1 : Nat) : Int) := fun k => by
          simp only [ring_Check.l0]
          rw [if_neg e0, e1, if_pos hle, e2, if_neg e3, e4]
        exact ⟨fun h => Ev.step hs (hr.1 h), fun h => Ev.step hs (hr.2 h)⟩
    · have hle : ¬ ((d : Int) ≤ ((p / d : Nat) : Int)) := by
        intro h
        exact hsq ((le_div_iff (p := p) h2).1 (by omega))
      have hpr : Pr p := by
        have := mf_self hp hno (by omega)
        exact this ▸ mf_prime hp
      refine ⟨fun _ => Ev.step (f := fun _ => some 0) (fun k => ?_) (Ev.now 0), fun h => absurd hpr h⟩
      simp only [ring_Check.l0]
      rw [if_neg e0, e1, if_neg hle]

/-- A number that is a modulus. -/
def Mod (a : Int) : Prop := ∃ p : Nat, a = (p : Int) ∧ p ≤ 2000000000 ∧ Pr p
theorem Mod.pos {p : Nat} (h : Mod (p : Int)) : Pr p ∧ p ≤ 2000000000 := by
  obtain ⟨q, e, h1, h2⟩ := h
  have : p = q := by omega
  subst this
  exact ⟨h2, h1⟩
theorem ring_Check_ev (a : Int) : (Mod a → Ev (fun k => ring_Check.f k a) 0) ∧ (¬ Mod a → Ev (fun k => ring_Check.f k a) 2) := by
  have j2 : ∀ a, Ev (fun k => ring_Check.j0 k a true) 2 := fun a => Ev.step (f := fun _ => some 2) (fun k => by simp [ring_Check.j0]) (Ev.now 2)
  by_cases h1 : a < 2
  · refine ⟨fun ⟨p, e, _, hp⟩ => ?_, fun _ => ?_⟩
    · have := hp.1; omega
    · exact Ev.congr (fun k => by unfold ring_Check.f; rw [if_pos h1]) (j2 a)
  · by_cases h2 : a > 2000000000
    · refine ⟨fun ⟨p, e, h3, hp⟩ => by omega, fun _ => ?_⟩
      exact Ev.congr (fun k => by unfold ring_Check.f; rw [if_neg h1, decide_eq_true h2]) (j2 a)
    · obtain ⟨p, rfl⟩ := Int.eq_ofNat_of_zero_le (show 0 ≤ a by omega)
      have hl := check_loop p (by omega) (by omega) p 2 (by omega) (by omega) (by omega) (fun e h3 h4 => by omega)
      have hj : ∀ r, Ev (fun k => ring_Check.l0 k p 2) r → Ev (fun k => ring_Check.f k p) r := fun r hr =>
        Ev.congr (fun k => by unfold ring_Check.f; rw [if_neg h1, decide_eq_false h2]) (Ev.step (f := fun k => ring_Check.l0 k p 2) (fun k => by simp [ring_Check.j0]) hr)
      exact ⟨fun h => hj 0 (hl.1 h.pos.1), fun h => hj 2 (hl.2 (fun hp => h ⟨p, rfl, by omega, hp⟩))⟩

/-! the reference's factors -/
def cl (l : List Nat) : List Int := l.map (fun x : Nat => (x : Int))
theorem cl_append (l m : List Nat) : cl (l ++ m) = cl l ++ cl m := List.map_append
theorem cl_cons (a : Nat) (l : List Nat) : cl (a :: l) = (a : Int) :: cl l := rfl
theorem cl_length (l : List Nat) : (cl l).length = l.length := List.length_map _
theorem factors_loop : ∀ (m n d : Nat) (out : List Int), 1 ≤ n → n ≤ 2000000000 → 2 ≤ d → (∀ e, 2 ≤ e → e < d → ¬ e ∣ n) → out.length + n ≤ 4000000000 →
    (d ≤ 44722 → 2 * (n + 50000 - d) + 1 ≤ m → Ev (fun k => fringeref10_Factors.l0 k n out d) (out ++ cl (pfl n), 0)) ∧
    (d ≤ 44721 → 2 * (n + 50000 - d) ≤ m → Ev (fun k => fringeref10_Factors.l1 k n out d) (out ++ cl (pfl n), 0)) := by
  intro m
  induction m with
  | zero => intro n d out h1 h2 h3 hno hl; exact ⟨fun h4 h5 => by omega, fun h4 h5 => by omega⟩
  | succ m ih =>
    intro n d out h1 h2 h3 hno hl
    constructor
    · intro h4 h5
      have hsq := sq_le h4
      have e1 : wrap64 ((d : Int) * (d : Int)) = ((d * d : Nat) : Int) := by rw [mulN, w64 (by omega) (by omega)]
      by_cases hc : d * d ≤ n
      · have h6 := le_of_sq hc h2
        refine Ev.step (f := fun k => fringeref10_Factors.l1 k n out d) (fun k => ?_) ((ih n d out h1 h2 h3 hno hl).2 h6 (by omega))
        simp only [fringeref10_Factors.l0]
        rw [e1, if_pos (by omega)]
      · by_cases hn1 : n = 1
        · subst hn1
          refine Ev.step (f := fun _ => some (out ++ cl (pfl 1), 0)) (fun k => ?_) (Ev.now _)
          simp only [fringeref10_Factors.l0]
          rw [e1, if_neg (by omega), if_neg (by omega), pfl_lt (by omega)]
          simp [cl]
        · refine Ev.step (f := fun _ => some (out ++ cl (pfl n), 0)) (fun k => ?_) (Ev.now _)
          simp only [fringeref10_Factors.l0]
          rw [e1, if_neg (by omega), if_pos (by omega), if_pos (by omega), pfl_self (by omega) hno (by omega)]
          rfl
    · intro h4 h5
      have e0 : ¬ ((d : Int) = 0) := by omega
      have e2 := tmodN n d
      by_cases hdv : d ∣ n
      · have e3 : ((n % d : Nat) : Int) = 0 := by have := Nat.mod_eq_zero_of_dvd hdv; omega
        have hlt := div_le_pred h3 h1 hdv
        have hpos : 1 ≤ n / d := Nat.div_pos (Nat.le_of_dvd h1 hdv) (by omega)
        have e4 : wrap64 (Int.tdiv (n : Int) (d : Int)) = ((n / d : Nat) : Int) := by rw [tdivN, w64N (by omega)]
        have hr := (ih (n / d) d (out ++ [(d : Int)]) hpos (by omega) h3 (no_div_div hdv hno) (by simp; omega)).2 h4 (by omega)
        have e5 : out ++ [(d : Int)] ++ cl (pfl (n / d)) = out ++ cl (pfl n) := by rw [pfl_step h1 h3 hdv hno, cl_cons]; simp
        rw [e5] at hr
        refine Ev.step (f := fun k => fringeref10_Factors.l1 k ((n / d : Nat) : Int) (out ++ [(d : Int)]) d) (fun k => ?_) hr
        simp only [fringeref10_Factors.l1]
        rw [if_neg e0, e2, if_pos e3, if_pos (by omega), e4]
      · have e3 : ¬ (((n % d : Nat) : Int) = 0) := by
          intro h
          exact hdv (Nat.dvd_of_mod_eq_zero (by omega))
        have e4 : wrap64 ((d : Int) + 1) = ((d + 1 : Nat) : Int) := by rw [w64 (by omega) (by omega)]; rfl
        have hr := (ih n (d + 1) out h1 h2 (by omega) (fun e he1 he2 hed => by
          by_cases h : e = d
          · exact hdv (h ▸ hed)
          · exact hno e he1 (by omega) hed) hl).1 (by omega) (by omega)
        refine Ev.step (f := fun k => fringeref10_Factors.l0 k n out ((d + 1 : Nat) : Int)) (fun k => ?_) hr
        simp only [fringeref10_Factors.l1]
        rw [if_neg e0, e2, if_neg e3, e4]
/-- A number whose factors are told. -/
def Num (a : Int) : Prop := ∃ n : Nat, a = (n : Int) ∧ 1 ≤ n ∧ n ≤ 2000000000
theorem refF_loop {n : Nat} (h1 : 1 ≤ n) (h2 : n ≤ 2000000000) : Ev (fun k => fringeref10_Factors.l0 k n [] 2) (cl (pfl n), 0) := by
  have := (factors_loop _ n 2 [] h1 h2 (by omega) (fun e _ _ => by omega) (by simp; omega)).1 (by omega) (Nat.le_refl _)
  simpa using this
theorem refF_ev {n : Nat} (h1 : 1 ≤ n) (h2 : n ≤ 2000000000) : Ev (fun k => fringeref10_Factors.f k n) (cl (pfl n), 0) :=
  Ev.congr (fun k => by unfold fringeref10_Factors.f; rw [if_neg (by omega), decide_eq_false (by omega)]) (Ev.step (f := fun k => fringeref10_Factors.l0 k n [] 2) (fun k => by simp [fringeref10_Factors.j0]) (refF_loop h1 h2))
theorem refF_not {a : Int} (h : ¬ Num a) : Ev (fun k => fringeref10_Factors.f k a) ([], 2) := by
  have j2 : Ev (fun k => fringeref10_Factors.j0 k a true) ([], 2) := Ev.step (f := fun _ => some ([], 2)) (fun k => by simp [fringeref10_Factors.j0]) (Ev.now _)
  by_cases h1 : a < 1
  · exact Ev.congr (fun k => by unfold fringeref10_Factors.f; rw [if_pos h1]) j2
  · have h2 : a > 2000000000 := by
      by_cases hc : a > 2000000000
      · exact hc
      · exact absurd ⟨a.toNat, by omega, by omega, by omega⟩ h
    exact Ev.congr (fun k => by unfold fringeref10_Factors.f; rw [if_neg h1, decide_eq_true h2]) j2
theorem Mod.num {a : Int} (h : Mod a) : Num a := by
  obtain ⟨p, e, h1, h2⟩ := h
  exact ⟨p, e, by have := h2.1; omega, h1⟩
theorem refCheck_ev (a : Int) : (Mod a → Ev (fun k => fringeref10_Check.f k a) 0) ∧ (¬ Mod a → Ev (fun k => fringeref10_Check.f k a) 2) := by
  by_cases h1 : a < 2
  · refine ⟨fun ⟨p, e, _, hp⟩ => by have := hp.1; omega, fun _ => ?_⟩
    exact Ev.congr (fun k => by unfold fringeref10_Check.f; rw [if_pos h1]) (Ev.now 2)
  · have hc : ∀ k, fringeref10_Check.f k a = (fringeref10_Factors.f k a).bind fun bt110 => (if bt110.2 = 0 then (if (bt110.1.length : Int) = 1 then (some 0) else (some 2)) else (some 2)) := fun k => by unfold fringeref10_Check.f; rw [if_neg h1]
    by_cases hn : Num a
    · obtain ⟨n, rfl, h2, h3⟩ := hn
      have hl := pfl_len_one (p := n) (by omega)
      refine ⟨fun h => Ev.congr hc (Ev.bind (refF_ev h2 h3) ?_), fun h => Ev.congr hc (Ev.bind (refF_ev h2 h3) ?_)⟩
      · simp only [cl_length, if_true]
        rw [if_pos (by have := hl.2 h.pos.1; omega)]
        exact Ev.now 0
      · simp only [cl_length, if_true]
        rw [if_neg (fun he => h ⟨n, rfl, h3, hl.1 (by omega)⟩)]
        exact Ev.now 2
    · refine ⟨fun h => absurd h.num hn, fun _ => Ev.congr hc (Ev.bind (refF_not hn) ?_)⟩
      simp only
      rw [if_neg (by decide)]
      exact Ev.now 2

/-! the program's factors -/
theorem take_ev : ∀ (n d : Nat) (out : List Int), 1 ≤ n → n ≤ 2000000000 → 2 ≤ d → (∀ e, 2 ≤ e → e < d → ¬ e ∣ n) → out.length + n ≤ 4000000000 →
    ∃ (n' : Nat) (out' : List Int), Ev (fun k => ring_take.l0 k d n out) ((n' : Int), out') ∧ out' ++ cl (pfl n') = out ++ cl (pfl n) ∧ 1 ≤ n' ∧ n' ≤ n ∧ n' ∣ n ∧ (∀ e, 2 ≤ e → e < d + 1 → ¬ e ∣ n') ∧ out'.length + n' ≤ 4000000000 := by
  intro n
  induction n using Nat.strongRecOn with
  | _ n ih =>
    intro d out h1 h2 h3 hno hl
    have e0 : ¬ ((d : Int) = 0) := by omega
    have e2 := tmodN n d
    by_cases hdv : d ∣ n
    · have e3 : ((n % d : Nat) : Int) = 0 := by have := Nat.mod_eq_zero_of_dvd hdv; omega
      have hlt := div_le_pred h3 h1 hdv
      have hpos : 1 ≤ n / d := Nat.div_pos (Nat.le_of_dvd h1 hdv) (by omega)
      have e4 : wrap64 (Int.tdiv (n : Int) (d : Int)) = ((n / d : Nat) : Int) := by rw [tdivN, w64N (by omega)]
      obtain ⟨n', out', hE, he, a1, a2, a3, a4, a5⟩ := ih (n / d) (by omega) d (out ++ [(d : Int)]) hpos (by omega) h3 (no_div_div hdv hno) (by simp; omega)
      refine ⟨n', out', Ev.step (f := fun k => ring_take.l0 k d ((n / d : Nat) : Int) (out ++ [(d : Int)])) (fun k => ?_) hE, ?_, a1, by omega, Nat.dvd_trans a3 (Nat.div_dvd_of_dvd hdv), a4, a5⟩
      · simp only [ring_take.l0]
        rw [if_neg e0, e2, if_pos e3, if_pos (by omega), e4]
      · rw [he, pfl_step h1 h3 hdv hno, cl_cons]; simp
    · have e3 : ¬ (((n % d : Nat) : Int) = 0) := by
        intro h
        exact hdv (Nat.dvd_of_mod_eq_zero (by omega))
      refine ⟨n, out, Ev.step (f := fun _ => some ((n : Int), out)) (fun k => ?_) (Ev.now _), rfl, h1, Nat.le_refl _, Nat.dvd_refl _, fun e he1 he2 hed => ?_, hl⟩
      · simp only [ring_take.l0]
        rw [if_neg e0, e2, if_neg e3]
      · by_cases h : e = d
        · exact hdv (h ▸ hed)
        · exact hno e he1 (by omega) hed
theorem split_loop : ∀ (m n d : Nat) (out : List Int), 1 ≤ n → n ≤ 2000000000 → 3 ≤ d → d % 2 = 1 → d ≤ 44723 → ¬ 2 ∣ n → (∀ e, 2 ≤ e → e < d → ¬ e ∣ n) → out.length + n ≤ 4000000000 → n + 50000 - d ≤ m →
    Ev (fun k => ring_split.l0 k n out d) (out ++ cl (pfl n)) := by
  intro m
  induction m with
  | zero => intro n d out h1 h2 h3 h4 h5 h6 hno hl hm; omega
  | succ m ih =>
    intro n d out h1 h2 h3 h4 h5 h6 hno hl hm
    have e0 : ¬ ((d : Int) = 0) := by omega
    have e1 : wrap64 (Int.tdiv (n : Int) (d : Int)) = ((n / d : Nat) : Int) := by
      rw [tdivN, w64N (by have := Nat.div_le_self n d; omega)]
    by_cases hsq : d * d ≤ n
    · have hle : (d : Int) ≤ ((n / d : Nat) : Int) := by have := (le_div_iff (p := n) (d := d) (by omega)).2 hsq; omega
      have h44 := le_of_sq hsq h2
      obtain ⟨n', out', hE, he, a1, a2, a3, a4, a5⟩ := take_ev n d out h1 h2 (by omega) hno hl
      have h2n : ¬ 2 ∣ n' := fun hd => h6 (Nat.dvd_trans hd a3)
      have hr := ih n' (d + 2) out' a1 (by omega) (by omega) (by omega) (by omega) h2n (fun e he1 he2 hed => by
        by_cases h : e = d + 1
        · exact h2n (Nat.dvd_trans (Nat.dvd_of_mod_eq_zero (by omega)) hed)
        · exact a4 e he1 (by omega) hed) a5 (by omega)
      rw [he] at hr
      refine Ev.step (f := fun k => (ring_take.l0 k d n out).bind fun p => ring_split.l0 k p.1 p.2 ((d + 2 : Nat) : Int)) (fun k => ?_) (Ev.bind hE hr)
      simp only [ring_split.l0]
      rw [if_neg e0, e1, if_pos hle, show wrap64 ((d : Int) + 2) = ((d + 2 : Nat) : Int) by rw [w64 (by omega) (by omega)]; rfl]
    · have hle : ¬ ((d : Int) ≤ ((n / d : Nat) : Int)) := by
        intro h
        exact hsq ((le_div_iff (p := n) (d := d) (by omega)).1 (by omega))
      by_cases hn1 : n = 1
      · subst hn1
        refine Ev.step (f := fun _ => some (out ++ cl (pfl 1))) (fun k => ?_) (Ev.now _)
        simp only [ring_split.l0]
        rw [if_neg e0, e1, if_neg hle, if_neg (by omega), pfl_lt (by omega)]
        simp [cl]
      · refine Ev.step (f := fun _ => some (out ++ cl (pfl n))) (fun k => ?_) (Ev.now _)
        simp only [ring_split.l0]
        rw [if_neg e0, e1, if_neg hle, if_pos (by omega), if_pos (by omega), pfl_self (by omega) hno (by omega)]
        rfl
theorem split_ev {n : Nat} (h1 : 1 ≤ n) (h2 : n ≤ 2000000000) : Ev (fun k => ring_split.f k n) (cl (pfl n)) := by
  obtain ⟨n', out', hE, he, a1, a2, a3, a4, a5⟩ := take_ev n 2 [] h1 h2 (by omega) (fun e _ _ => by omega) (by simp; omega)
  have hr := split_loop _ n' 3 out' a1 (by omega) (by omega) (by omega) (by omega) (a4 2 (by omega) (by omega)) (fun e he1 he2 => a4 e he1 (by omega)) a5 (Nat.le_refl _)
  rw [he] at hr
  exact Ev.congr (fun k => by unfold ring_split.f; rfl) (Ev.bind (f := fun k p => ring_split.l0 k p.1 p.2 3) hE hr)
/-! powers -/
theorem mul_lt {a b p : Nat} (ha : a < p) (hb : b < p) (hp : p ≤ 2000000000) : a * b ≤ 4000000000000000000 :=
  Nat.le_trans (Nat.mul_le_mul (show a ≤ 2000000000 by omega) (show b ≤ 2000000000 by omega)) (by decide)
theorem mulmod {a b p : Nat} (ha : a < p) (hb : b < p) (hp : p ≤ 2000000000) : Int.tmod (wrap64 ((a : Int) * (b : Int))) (p : Int) = ((a * b % p : Nat) : Int) := by
  have := mul_lt ha hb hp
  rw [mulN, w64N (by omega), tmodN]
theorem pow_even (out a n p : Nat) (h : n % 2 = 0) : out * (a * a % p) ^ (n / 2) % p = out * a ^ n % p := by
  have e : a ^ n = (a * a) ^ (n / 2) := by
    rw [← Nat.pow_two, ← Nat.pow_mul]
    congr 1
    omega
  rw [e, Nat.mul_mod, ← Nat.pow_mod, ← Nat.mul_mod]
theorem pow_odd (out a n p : Nat) (h : n % 2 = 1) : out * a % p * (a * a % p) ^ (n / 2) % p = out * a ^ n % p := by
  have e : a ^ n = a * (a * a) ^ (n / 2) := by
    rw [← Nat.pow_two, ← Nat.pow_mul, Nat.mul_comm, ← Nat.pow_succ]
    congr 1
    omega
  rw [e, ← Nat.mul_assoc, Nat.mul_mod, Nat.mod_mod, ← Nat.pow_mod, ← Nat.mul_mod]
theorem bit_one {n : Nat} (hn : n ≤ 9223372036854775807) : bits .and .i64 (n : Int) 1 = (n : Int) % 2 := by
  have := bits_mask .i64 63 (by decide) (fun x h1 h2 => by rw [IntKind.wrap_i64]; omega) 1 (by omega) (n : Int) (by omega) (by omega)
  rwa [show (2 : Int) ^ 1 - 1 = 1 from rfl, show (2 : Int) ^ 1 = 2 from rfl] at this
theorem power_loop (p : Nat) (hp : 2 ≤ p) (hp2 : p ≤ 2000000000) : ∀ (n a out : Nat), n ≤ 9223372036854775807 → a < p → out < p →
    Ev (fun k => ring_power.l0 k p a n out) ((out * a ^ n % p : Nat) : Int) ∧ Ev (fun k => fringeref10_Power.l0 k p a n out) ((out * a ^ n % p : Nat) : Int) := by
  intro n
  induction n using Nat.strongRecOn with
  | _ n ih =>
    intro a out hn ha ho
    have ep : ¬ ((p : Int) = 0) := by omega
    by_cases h0 : n = 0
    · subst h0
      rw [Nat.pow_zero, Nat.mul_one, Nat.mod_eq_of_lt ho]
      constructor
      · refine Ev.step (f := fun _ => some (out : Int)) (fun k => ?_) (Ev.now _)
        simp only [ring_power.l0]
        rw [if_neg (by omega)]
      · refine Ev.step (f := fun _ => some (out : Int)) (fun k => ?_) (Ev.now _)
        simp only [fringeref10_Power.l0]
        rw [if_neg (by omega)]
    · have e1 := mulmod ha ha hp2
      have e2 := mulmod ho ha hp2
      have ediv : wrap64 (Int.tdiv (n : Int) 2) = ((n / 2 : Nat) : Int) := by
        rw [show (2 : Int) = ((2 : Nat) : Int) from rfl, tdivN, w64N (by omega)]
      have ediv2 : (n : Int) / 2 = ((n / 2 : Nat) : Int) := by omega
      have etm : Int.tmod (n : Int) 2 = (n : Int) % 2 := Int.tmod_eq_emod_of_nonneg (Int.natCast_nonneg n)
      have hpos : (n : Int) > 0 := by omega
      by_cases hpar : n % 2 = 1
      · have hc : (n : Int) % 2 = 1 := by omega
        have hr := ih (n / 2) (by omega) (a * a % p) (out * a % p) (by omega) (Nat.mod_lt _ (by omega)) (Nat.mod_lt _ (by omega))
        rw [pow_odd out a n p hpar] at hr
        constructor
        · refine Ev.step (fun k => ?_) hr.1
          simp only [ring_power.l0]
          rw [if_pos hpos, bit_one hn, if_pos hc, if_neg ep, e1, e2, ediv2]
        · refine Ev.step (fun k => ?_) hr.2
          simp only [fringeref10_Power.l0]
          rw [if_pos hpos, etm, if_pos hc, if_neg ep, e1, e2, ediv]
      · have hc : ¬ ((n : Int) % 2 = 1) := by omega
        have hr := ih (n / 2) (by omega) (a * a % p) out (by omega) (Nat.mod_lt _ (by omega)) ho
        rw [pow_even out a n p (by omega)] at hr
        constructor
        · refine Ev.step (fun k => ?_) hr.1
          simp only [ring_power.l0]
          rw [if_pos hpos, bit_one hn, if_neg hc, if_neg ep, e1, ediv2]
        · refine Ev.step (fun k => ?_) hr.2
          simp only [fringeref10_Power.l0]
          rw [if_pos hpos, etm, if_neg hc, if_neg ep, e1, ediv]
theorem power_ev {p n a : Nat} (hp : 2 ≤ p) (hp2 : p ≤ 2000000000) (hn : n ≤ 9223372036854775807) (ha : a < p) : Ev (fun k => ring_power.f k p a n) ((a ^ n % p : Nat) : Int) := by
  have := (power_loop p hp hp2 n a 1 hn ha (by omega)).1
  rw [Nat.one_mul, show ((1 : Nat) : Int) = 1 from rfl] at this
  exact Ev.congr (fun k => by unfold ring_power.f; rfl) this
theorem Power_ev {p n a : Nat} (hp : 2 ≤ p) (hp2 : p ≤ 2000000000) (hn : n ≤ 9223372036854775807) (ha : a < p) : Ev (fun k => fringeref10_Power.f k p a n) ((a ^ n % p : Nat) : Int) := by
  have := (power_loop p hp hp2 n a 1 hn ha (by omega)).2
  rw [Nat.one_mul, show ((1 : Nat) : Int) = 1 from rfl] at this
  exact Ev.congr (fun k => by unfold fringeref10_Power.f; rfl) this

/-! a modulus and an element -/
theorem both_ev (a b : Int) : (¬ Mod a → Ev (fun k => ring_both.f k a b) 2 ∧ Ev (fun k => fringeref10_Both.f k a b) 2) ∧
    (Mod a → (b < 0 ∨ a ≤ b) → Ev (fun k => ring_both.f k a b) 8 ∧ Ev (fun k => fringeref10_Both.f k a b) 8) ∧
    (Mod a → 0 ≤ b → b < a → Ev (fun k => ring_both.f k a b) 0 ∧ Ev (fun k => fringeref10_Both.f k a b) 0) := by
  have h1 : ∀ k, ring_both.f k a b = (ring_Check.f k a).bind fun t101 => (if t101 = 0 then (if b < 0 then (some 8) else (if b ≥ a then (some 8) else (some 0))) else (some t101)) := fun k => by unfold ring_both.f; rfl
  have h2 : ∀ k, fringeref10_Both.f k a b = (fringeref10_Check.f k a).bind fun t101 => (if t101 = 0 then (if b < 0 then (some 8) else (if b ≥ a then (some 8) else (some 0))) else (some 2)) := fun k => by unfold fringeref10_Both.f; rfl
  refine ⟨fun h => ⟨Ev.congr h1 (Ev.bind ((ring_Check_ev a).2 h) ?_), Ev.congr h2 (Ev.bind ((refCheck_ev a).2 h) ?_)⟩,
    fun h hb => ⟨Ev.congr h1 (Ev.bind ((ring_Check_ev a).1 h) ?_), Ev.congr h2 (Ev.bind ((refCheck_ev a).1 h) ?_)⟩,
    fun h hb hb2 => ⟨Ev.congr h1 (Ev.bind ((ring_Check_ev a).1 h) ?_), Ev.congr h2 (Ev.bind ((refCheck_ev a).1 h) ?_)⟩⟩
  · rw [if_neg (by decide)]; exact Ev.now _
  · rw [if_neg (by decide)]; exact Ev.now _
  · simp only [if_true]
    rcases hb with hb | hb
    · rw [if_pos hb]; exact Ev.now _
    · by_cases h3 : b < 0
      · rw [if_pos h3]; exact Ev.now _
      · rw [if_neg h3, if_pos hb]; exact Ev.now _
  · simp only [if_true]
    rcases hb with hb | hb
    · rw [if_pos hb]; exact Ev.now _
    · by_cases h3 : b < 0
      · rw [if_pos h3]; exact Ev.now _
      · rw [if_neg h3, if_pos hb]; exact Ev.now _
  · simp only [if_true]; rw [if_neg (by omega), if_neg (by omega)]; exact Ev.now _
  · simp only [if_true]; rw [if_neg (by omega), if_neg (by omega)]; exact Ev.now _
end Go.Proofs.Ytbeidonfmeengaa.RL
