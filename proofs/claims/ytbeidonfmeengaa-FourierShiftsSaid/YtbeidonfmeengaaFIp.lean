/- Lists that fit, or nothing is asked. -/
import Derived.Test.YtbeidonfmeengaaFCp
import Derived.Test.YtbeidonfmeengaaPAllx9
import Derived.Test.YtbeidonfmeengaaPAllx7
set_option linter.unusedVariables false
set_option linter.unusedSimpArgs false
set_option linter.unusedSectionVars false
namespace Go.Proofs.Ytbeidonfmeengaa.FL
open Go Go.RowKit Go.Proofs.Ytbeidonfmeengaa.PAll Go.Proofs.YtbeidonfmeengaaW.PrintWords Go.Proofs.YtbeidonfmeengaaW.PrintLast RM FM Go.Proofs.Ytbeidonfmeengaa.RL

theorem fit_ev11 (a : Int) (l m : List Int) : ∃ b, Ev (fun k => fringelaw11_fit.f k a l m) b ∧ (b = true → ∃ p A B, a = ((p : Nat) : Int) ∧ l = cl A ∧ m = cl B ∧ Fit p A ∧ Fit p B ∧ A.length = B.length) := by
  have hg : ∀ l : List Int, fringeref11_Great.f l = some (decide ((l.length : Int) > 70)) := fun l => rfl
  have h1 : ∀ k, fringelaw11_fit.f k a l m = _ := fun k => fringelaw11_fit.f.eq_1 k _ _ _
  simp only [hg] at h1
  by_cases c1 : decide ((l.length : Int) > 70) = true
  · exact ⟨false, Ev.congr h1 (Ev.bind (Ev.now _) (evp c1 (Ev.now _))), fun h => by cases h⟩
  by_cases c2 : decide ((m.length : Int) > 70) = true
  · exact ⟨false, Ev.congr h1 (Ev.bind (Ev.now _) (evn c1 (Ev.bind (Ev.now _) (evp c2 (Ev.now _))))), fun h => by cases h⟩
  obtain ⟨r, r1, r2, r3⟩ := check_all11 a l
  obtain ⟨s, s1, s2, s3⟩ := check_all11 a m
  have fin : ∀ {u}, Ev (fun k => fringeref11_Both.f k a l m) u → ∀ b, (if u = 0 then (some ((l.length : Int) == (m.length : Int))) else some false) = some b → Ev (fun k => fringelaw11_fit.f k a l m) b := fun {u} hu b hb => by
    refine Ev.congr h1 (Ev.bind (Ev.now _) (evn c1 (Ev.bind (Ev.now _) (evn c2 (Ev.bind hu ?_)))))
    rw [hb]
    exact Ev.now _
  by_cases h0 : r = 0
  · by_cases h2 : s = 0
    · refine ⟨_, fin (Ev.congr (fun k => fringeref11_Both.f.eq_1 k _ _ _) (Ev.bind r2 (evp h0 (Ev.bind s2 (Ev.now _))))) _ (if_pos h2), fun h => ?_⟩
      obtain ⟨p, A, rfl, rfl, hA⟩ := r3 h0
      obtain ⟨q, B, hq, rfl, hB⟩ := s3 h2
      obtain rfl : p = q := by omega
      rw [beq_iff_eq, cl_length, cl_length] at h
      exact ⟨p, A, B, rfl, rfl, rfl, hA, hB, by omega⟩
    · exact ⟨_, fin (Ev.congr (fun k => fringeref11_Both.f.eq_1 k _ _ _) (Ev.bind r2 (evp h0 (Ev.bind s2 (Ev.now _))))) _ (if_neg h2), fun h => by cases h⟩
  · exact ⟨_, fin (Ev.congr (fun k => fringeref11_Both.f.eq_1 k _ _ _) (Ev.bind r2 (evn h0 (Ev.bind r2 (Ev.now _))))) _ (if_neg h0), fun h => by cases h⟩
/-- Nothing is asked of what doesn't fit. -/
theorem fits11 {a : Int} {l m : List Int} {f g : Nat → Option Bool} (hg : Ev g true) (hf : ∀ (p : Nat) (A B : List Nat), a = ((p : Nat) : Int) → l = cl A → m = cl B → Fit p A → Fit p B → A.length = B.length → Ev f true) :
    Ev (fun k => (fringelaw11_fit.f k a l m).bind fun t => if t = true then f k else g k) true := by
  obtain ⟨b, hb, h⟩ := fit_ev11 a l m
  refine Ev.bind hb ?_
  cases b with
  | false => exact evn (by decide) hg
  | true =>
    obtain ⟨p, A, B, e1, e2, e3, hA, hB, hl⟩ := h rfl
    exact evp rfl (hf p A B e1 e2 e3 hA hB hl)
theorem al : Ev (fun k => (fringelaw11_alive.f).bind fun t => some t) true := Ev.now _
/-! transforms add, and the convolution's order doesn't matter -/
def add2 (p : Nat) (A B : List Nat) : List Nat := tab A.length fun k => (at_ A k + at_ B k) % p
theorem fwd_add {p w : Nat} {A B : List Nat} (hl : A.length = B.length) : fwd p w (add2 p A B) = add2 p (fwd p w A) (fwd p w B) := by
  refine eq_of_at (by rw [fwd_length, add2, tab_length, add2, tab_length, fwd_length]) fun i hi => ?_
  have hi2 : i < A.length := by rw [fwd_length, add2, tab_length] at hi; exact hi
  have hla : (add2 p A B).length = A.length := tab_length _ _
  have hr : at_ (add2 p (fwd p w A) (fwd p w B)) i = (at_ (fwd p w A) i + at_ (fwd p w B) i) % p := at_tab _ (by rw [fwd_length]; exact hi2)
  rw [hr, at_fwd (by rw [hla]; exact hi2), hla, at_fwd hi2, at_fwd (by omega), ← hl, ← Nat.add_mod, ← S_add]
  refine S_mod fun j hj => ?_
  have hj2 : at_ (add2 p A B) j = (at_ A j + at_ B j) % p := at_tab _ hj
  rw [hj2, ← Nat.add_mul]
  exact mmod (mm _ _) rfl
theorem Fit.add2 {p : Nat} {A : List Nat} (h : Fit p A) (B : List Nat) : Fit p (add2 p A B) := Fit.other h (tab_length _ _) (by
  intro x hx
  simp only [FL.add2, tab, List.mem_map] at hx
  obtain ⟨i, _, rfl⟩ := hx
  exact Nat.mod_lt _ (by have := h.pr.1; omega))
theorem conv_comm {p : Nat} {A B : List Nat} (hA : Fit p A) (hB : Fit p B) (hl : A.length = B.length) : conv p A B = conv p B A := by
  have h1 := bwd_fwd (Fit.conv hA B)
  have h2 := bwd_fwd (Fit.conv hB A)
  rw [conv_length] at h1 h2
  rw [fwd_conv_eq hA hl] at h1
  rw [fwd_conv_eq hB hl.symm] at h2
  rw [← h1, ← h2, ← hl]
  congr 1
  unfold prod2
  rw [fwd_length, fwd_length, hl]
  exact tab_congr fun k _ => by rw [Nat.mul_comm]
end Go.Proofs.Ytbeidonfmeengaa.FL
