import Derived.Test.YtbeidonfmeengaaRL2fp
set_option linter.unusedVariables false
set_option linter.unusedSimpArgs false
namespace Go.Proofs.Ytbeidonfmeengaa.RL
open Go Go.RowKit Go.Proofs.Ytbeidonfmeengaa.PAll Go.Proofs.YtbeidonfmeengaaW.PrintWords Go.Proofs.YtbeidonfmeengaaW.PrintLast RM

/-! orders -/
theorem rd_cl (L : List Nat) (i : Nat) (h : i < L.length) : rd (cl L) (i : Int) = (L[i] : Int) := by
  simp [rd, cl, List.getD_eq_getElem?_getD, h]
theorem divN {n q : Nat} (hn : n ≤ 2000000000) : wrap64 (Int.tdiv (n : Int) (q : Int)) = ((n / q : Nat) : Int) := by
  have := Nat.div_le_self n q
  rw [tdivN, w64N (by omega)]
theorem pred1 {p : Nat} (hp : 2 ≤ p) (hp2 : p ≤ 2000000000) : wrap64 ((p : Int) - 1) = ((p - 1 : Nat) : Int) := by
  rw [w64 (by omega) (by omega)]; omega
theorem succ1 {i : Nat} (hi : i ≤ 4000000000) : wrap64 ((i : Int) + 1) = ((i + 1 : Nat) : Int) := by
  rw [w64 (by omega) (by omega)]; rfl
theorem order_loop (p a : Nat) (hp : 2 ≤ p) (hp2 : p ≤ 2000000000) (ha : a < p) (L : List Nat) (hL : ∀ x ∈ L, Pr x) (hl : L.length ≤ 2000000000) : ∀ (m i n : Nat), i + m = L.length → n ≤ 2000000000 →
    Ev (fun k => fringeref10_order.l0 k p a n (cl L) i) (ordl p a n (L.drop i) : Int) := by
  intro m
  induction m with
  | zero =>
    intro i n hi hn
    have hd : L.drop i = [] := List.drop_eq_nil_of_le (by omega)
    rw [hd, ordl]
    refine Ev.step (f := fun _ => some (n : Int)) (fun k => ?_) (Ev.now _)
    simp only [fringeref10_order.l0, cl_length]
    rw [if_neg (by omega)]
  | succ m ih =>
    intro i n hi hn
    have hlt : i < L.length := by omega
    have hq := (hL _ (List.getElem_mem hlt)).1
    have hdl := Nat.div_le_self n L[i]
    have hd : L.drop i = L[i] :: L.drop (i + 1) := List.drop_eq_getElem_cons hlt
    have e1 := rd_cl L i hlt
    have c1 : ¬ (((L[i] : Nat) : Int) = 0) := by omega
    have c2 : (i : Int) < (L.length : Int) := by omega
    have c3 : (0 : Int) ≤ (i : Int) := by omega
    have hP2 := Power_ev (n := n / L[i]) hp hp2 (by omega) ha
    have ih1 := ih (i + 1) (n / L[i]) (by omega) (by omega)
    have ih2 := ih (i + 1) n (by omega) hn
    rw [hd, ordl]
    have hs := succ1 (i := i) (by omega)
    have hdv := divN (n := n) (q := L[i]) hn
    by_cases hc : a ^ (n / L[i]) % p = 1
    · rw [if_pos hc]
      rw [hc] at hP2
      refine Ev.step (f := fun k => (fringeref10_Power.f k p a ((n / L[i] : Nat) : Int)).bind fun t136 => (if t136 = 1 then (fringeref10_order.l0 k p a ((n / L[i] : Nat) : Int) (cl L) ((i + 1 : Nat) : Int)) else (fringeref10_order.l0 k p a n (cl L) ((i + 1 : Nat) : Int)))) (fun k => ?_) (Ev.bind hP2 (evp rfl ih1))
      simp only [fringeref10_order.l0]
      rw [cl_length, if_pos c2, if_pos c3, e1, if_neg c1, hdv, hs]
    · rw [if_neg hc]
      have hc' : ¬ (((a ^ (n / L[i]) % p : Nat) : Int) = 1) := by omega
      refine Ev.step (f := fun k => (fringeref10_Power.f k p a ((n / L[i] : Nat) : Int)).bind fun t136 => (if t136 = 1 then (fringeref10_order.l0 k p a ((n / L[i] : Nat) : Int) (cl L) ((i + 1 : Nat) : Int)) else (fringeref10_order.l0 k p a n (cl L) ((i + 1 : Nat) : Int)))) (fun k => ?_) (Ev.bind hP2 (evn hc' ih2))
      simp only [fringeref10_order.l0]
      rw [cl_length, if_pos c2, if_pos c3, e1, if_neg c1, hdv, hs]
/-- The order of a. -/
noncomputable def ordr (p a : Nat) : Nat := ordl p a (p - 1) (pfl (p - 1))
theorem pfl_len {n : Nat} (h1 : 1 ≤ n) (h2 : n ≤ 2000000000) : (pfl n).length ≤ 2000000000 := Nat.le_trans (pfl_length_le n h1) h2
theorem order_ev {p a : Nat} (hp : Pr p) (hp2 : p ≤ 2000000000) (ha : a < p) :
    Ev (fun k => fringeref10_order.f k p a) (ordr p a : Int) := by
  have hp0 := hp.1
  have h := order_loop p a hp0 hp2 ha (pfl (p - 1)) (pfl_prime _) (pfl_len (by omega) (by omega)) (pfl (p - 1)).length 0 (p - 1) (by omega) (by omega)
  rw [List.drop_zero] at h
  refine Ev.congr (fun k => by unfold fringeref10_order.f; rw [pred1 hp0 hp2]) (Ev.bind (refF_ev (n := p - 1) (by omega) (by omega)) ?_)
  exact h
/-! generators -/
def Good (p g : Nat) : Prop := ∀ q ∈ pfl (p - 1), g ^ ((p - 1) / q) % p ≠ 1
theorem exists_gen {p : Nat} (hp : Pr p) : ∃ g, (1 ≤ g ∧ g < p ∧ Good p g) ∧ ∀ h, 1 ≤ h → h < g → ¬ Good p h := by
  have hp0 := hp.1
  obtain ⟨g0, h1, h2, h3⟩ := prim_exists hp
  have key : ∀ n g, g ≤ n → 1 ≤ g → g < p → Good p g → ∃ g, (1 ≤ g ∧ g < p ∧ Good p g) ∧ ∀ h, 1 ≤ h → h < g → ¬ Good p h := by
    intro n
    induction n with
    | zero => intro g hg h1; omega
    | succ n ih =>
      intro g hg h1 h2 h3
      by_cases hs : ∃ h, 1 ≤ h ∧ h < g ∧ Good p h
      · obtain ⟨h, a1, a2, a3⟩ := hs
        exact ih h (by omega) a1 (by omega) a3
      · exact ⟨g, ⟨h1, h2, h3⟩, fun h a1 a2 a3 => hs ⟨h, a1, a2, a3⟩⟩
  exact key g0 g0 (Nat.le_refl _) h1 h2 (fun q hq => h3 q (pfl_prime _ q hq) (pfl_dvd (by omega) hq))
/-- The generator. -/
noncomputable def gen (p : Nat) : Nat := open Classical in if h : Pr p then Classical.choose (exists_gen h) else 0
theorem gen_spec {p : Nat} (hp : Pr p) : (1 ≤ gen p ∧ gen p < p ∧ Good p (gen p)) ∧ ∀ h, 1 ≤ h → h < gen p → ¬ Good p h := by
  unfold gen
  rw [dif_pos hp]
  exact Classical.choose_spec (exists_gen hp)
theorem gen_ord {p : Nat} (hp : Pr p) : Ord p (gen p) (p - 1) := by
  obtain ⟨⟨h1, h2, h3⟩, _⟩ := gen_spec hp
  have := hp.1
  exact prim_ord hp h1 h2 (fun q hq hd => h3 q (mem_pfl (by omega) hq hd))
theorem gen_inner (p : Nat) (hp : Pr p) (hp2 : p ≤ 2000000000) (g : Nat) (hg : g < p) : ∀ (m i : Nat), i + m = (pfl (p - 1)).length →
    ((∀ q ∈ (pfl (p - 1)).drop i, g ^ ((p - 1) / q) % p ≠ 1) → Ev (fun k => ring_generator.l1 k p (cl (pfl (p - 1))) g (cl (pfl (p - 1))) ((pfl (p - 1)).length : Int) i) (g : Int)) ∧
    (∀ r, ¬ (∀ q ∈ (pfl (p - 1)).drop i, g ^ ((p - 1) / q) % p ≠ 1) → Ev (fun k => ring_generator.l0 k p (cl (pfl (p - 1))) ((g + 1 : Nat) : Int)) r → Ev (fun k => ring_generator.l1 k p (cl (pfl (p - 1))) g (cl (pfl (p - 1))) ((pfl (p - 1)).length : Int) i) r) := by
  have hp0 := hp.1
  have hl := pfl_len (n := p - 1) (by omega) (by omega)
  generalize hL : pfl (p - 1) = L at *
  intro m
  induction m with
  | zero =>
    intro i hi
    have hd : L.drop i = [] := List.drop_eq_nil_of_le (by omega)
    rw [hd]
    refine ⟨fun _ => Ev.step (f := fun _ => some (g : Int)) (fun k => ?_) (Ev.now _), fun r h => absurd (fun q hq => by cases hq) h⟩
    simp only [ring_generator.l1]
    rw [if_neg (by omega)]
  | succ m ih =>
    intro i hi
    have hlt : i < L.length := by omega
    have hq := (pfl_prime (p - 1) L[i] (by rw [hL]; exact List.getElem_mem hlt)).1
    have hdl := Nat.div_le_self (p - 1) L[i]
    have hd : L.drop i = L[i] :: L.drop (i + 1) := List.drop_eq_getElem_cons hlt
    have e1 := rd_cl L i hlt
    have c1 : ¬ (((L[i] : Nat) : Int) = 0) := by omega
    have c2 : (i : Int) < (L.length : Int) := by omega
    have c3 : (0 : Int) ≤ (i : Int) := by omega
    have hP := power_ev (n := (p - 1) / L[i]) hp0 hp2 (by omega) hg
    have hI := ih (i + 1) (by omega)
    have hs := succ1 (i := i) (by omega)
    have hs2 := succ1 (i := g) (by omega)
    have hdv := divN (n := p - 1) (q := L[i]) (by omega)
    have hpr := pred1 hp0 hp2
    have hst : ∀ k, ring_generator.l1 (k + 1) p (cl L) g (cl L) (L.length : Int) i = (ring_power.f k p g (((p - 1) / L[i] : Nat) : Int)).bind fun t156 => (if t156 = 1 then (ring_generator.l0 k p (cl L) ((g + 1 : Nat) : Int)) else (ring_generator.l1 k p (cl L) g (cl L) (L.length : Int) ((i + 1 : Nat) : Int))) := fun k => by
      simp only [ring_generator.l1]
      rw [if_pos c2, if_pos c3, cl_length, if_pos c2, e1, if_neg c1, hpr, hdv, hs, hs2]
    rw [hd]
    by_cases hc : g ^ ((p - 1) / L[i]) % p = 1
    · rw [hc] at hP
      exact ⟨fun h => absurd hc (h L[i] List.mem_cons_self), fun r _ hr => Ev.step hst (Ev.bind hP (evp rfl hr))⟩
    · have hc' : ¬ (((g ^ ((p - 1) / L[i]) % p : Nat) : Int) = 1) := by omega
      refine ⟨fun h => Ev.step hst (Ev.bind hP (evn hc' (hI.1 (fun q hq => h q (List.mem_cons_of_mem _ hq))))), fun r h hr => Ev.step hst (Ev.bind hP (evn hc' (hI.2 r (fun h2 => h (fun q hq => ?_)) hr)))⟩
      rcases List.mem_cons.1 hq with e | hq
      · rw [e]; exact hc
      · exact h2 q hq
theorem gen_loop (p : Nat) (hp : Pr p) (hp2 : p ≤ 2000000000) : ∀ (m g : Nat), g + m = gen p → 1 ≤ g → Ev (fun k => ring_generator.l0 k p (cl (pfl (p - 1))) g) (gen p : Int) ∧ Ev (fun k => fringeref10_generator.l0 k p g) (gen p : Int) := by
  have hp0 := hp.1
  obtain ⟨⟨h1, h2, h3⟩, h4⟩ := gen_spec hp
  have hst : ∀ (g : Nat) k, ring_generator.l0 (k + 1) p (cl (pfl (p - 1))) g = ring_generator.l1 k p (cl (pfl (p - 1))) g (cl (pfl (p - 1))) ((pfl (p - 1)).length : Int) ((0 : Nat) : Int) := fun g k => by
    simp only [ring_generator.l0, cl_length]; rfl
  have hst2 : ∀ (g : Nat) k, g < p → fringeref10_generator.l0 (k + 1) p g = (fringeref10_order.f k p g).bind fun t159 => (if t159 = ((p - 1 : Nat) : Int) then (some (g : Int)) else (fringeref10_generator.l0 k p ((g + 1 : Nat) : Int))) := fun g k hg => by
    simp only [fringeref10_generator.l0]
    rw [pred1 hp0 hp2, succ1 (by omega)]
  have hfull : ∀ g, g < p → (ordr p g = p - 1 ↔ Good p g) := fun g _ => ordl_full p g (pfl (p - 1)) (p - 1) (by omega) (fun x hx => (pfl_prime _ x hx).1)
  intro m
  induction m with
  | zero =>
    intro g hg _
    have : g = gen p := by omega
    subst this
    constructor
    · exact Ev.step (hst _) ((gen_inner p hp hp2 _ h2 _ 0 (Nat.zero_add _)).1 (by rw [List.drop_zero]; exact h3))
    · refine Ev.step (fun k => hst2 _ k h2) (Ev.bind (order_ev hp hp2 h2) (evp ?_ (Ev.now _)))
      have := (hfull _ h2).2 h3
      omega
  | succ m ih =>
    intro g hg hg1
    have hI := ih (g + 1) (by omega) (by omega)
    have hlt : g < p := by omega
    have hb := h4 g hg1 (by omega)
    constructor
    · exact Ev.step (hst _) ((gen_inner p hp hp2 _ hlt _ 0 (Nat.zero_add _)).2 _ (by rw [List.drop_zero]; exact hb) hI.1)
    · refine Ev.step (fun k => hst2 _ k hlt) (Ev.bind (order_ev hp hp2 hlt) (evn ?_ hI.2))
      intro he
      exact hb ((hfull _ hlt).1 (by omega))
theorem gen_ev {p : Nat} (hp : Pr p) (hp2 : p ≤ 2000000000) : Ev (fun k => ring_generator.f k p) (gen p : Int) ∧ Ev (fun k => fringeref10_generator.f k p) (gen p : Int) := by
  have hp0 := hp.1
  obtain ⟨⟨h1, h2, h3⟩, h4⟩ := gen_spec hp
  have h := gen_loop p hp hp2 (gen p - 1) 1 (by omega) (by omega)
  exact ⟨Ev.congr (fun k => by unfold ring_generator.f; rw [pred1 hp0 hp2]) (Ev.bind (split_ev (n := p - 1) (by omega) (by omega)) h.1), Ev.congr (fun k => by unfold fringeref10_generator.f; rfl) h.2⟩
/-! roots -/
theorem Root_ev {p n : Nat} (hp : Pr p) (hp2 : p ≤ 2000000000) (hn : 1 ≤ n) (hd : n ∣ p - 1) :
    Ev (fun k => ring_Root.f k p n) (((gen p ^ ((p - 1) / n) % p : Nat) : Int), 0) ∧ Ev (fun k => fringeref10_Root.f k p n) (((gen p ^ ((p - 1) / n) % p : Nat) : Int), 0) := by
  have hm : Mod (p : Int) := ⟨p, rfl, hp2, hp⟩
  have hp0 := hp.1
  have h := gen_ev hp hp2
  have hg := (gen_spec hp).1.2.1
  have hdl := Nat.div_le_self (p - 1) n
  have e1 : Int.tmod ((p - 1 : Nat) : Int) (n : Int) = 0 := by rw [tmodN, Nat.mod_eq_zero_of_dvd hd]; rfl
  have c1 : ¬ (Int.tmod ((p - 1 : Nat) : Int) (n : Int) > 0) := by rw [e1]; decide
  constructor
  · refine Ev.congr (fun k => by unfold ring_Root.f; rw [pred1 hp0 hp2, divN (by omega)]) (Ev.bind ((ring_Check_ev p).1 hm) ?_)
    exact evp rfl (evn (by omega) (evn (by omega) (evn c1 (Ev.bind h.1 (Ev.bind (power_ev hp0 hp2 (by omega) hg) (Ev.now _))))))
  · refine Ev.congr (fun k => by unfold fringeref10_Root.f; rw [pred1 hp0 hp2, divN (by omega)]) (Ev.bind ((refCheck_ev p).1 hm) ?_)
    exact evp rfl (evn (by omega) (evn (by omega) (evp e1 (Ev.bind h.2 (Ev.bind (Power_ev hp0 hp2 (by omega) hg) (Ev.now _))))))
theorem tmod_nonneg' (p : Nat) (n : Int) : 0 ≤ Int.tmod (p : Int) n := Int.tmod_nonneg _ (by omega)
theorem Root_none {p : Nat} {n : Int} (hp : Pr p) (hp2 : p ≤ 2000000000) (hn : 1 ≤ n) (hd : ¬ Int.tmod ((p - 1 : Nat) : Int) n = 0) :
    Ev (fun k => ring_Root.f k p n) (0, 6) ∧ Ev (fun k => fringeref10_Root.f k p n) (0, 6) := by
  have hm : Mod (p : Int) := ⟨p, rfl, hp2, hp⟩
  have hp0 := hp.1
  have c1 : Int.tmod ((p - 1 : Nat) : Int) n > 0 := by have := tmod_nonneg' (p - 1) n; omega
  constructor
  · refine Ev.congr (fun k => by unfold ring_Root.f; rw [pred1 hp0 hp2]) (Ev.bind ((ring_Check_ev p).1 hm) ?_)
    exact evp rfl (evn (by omega) (evn (by omega) (evp c1 (Ev.now _))))
  · refine Ev.congr (fun k => by unfold fringeref10_Root.f; rw [pred1 hp0 hp2]) (Ev.bind ((refCheck_ev p).1 hm) ?_)
    exact evp rfl (evn (by omega) (evn (by omega) (evn hd (Ev.now _))))
theorem Root_all (p n : Int) : ∃ r, Ev (fun k => ring_Root.f k p n) r ∧ Ev (fun k => fringeref10_Root.f k p n) r := by
  by_cases hm : Mod p
  · by_cases hn : n < 1
    · have h1 := (ring_Check_ev p).1 hm
      have h2 := (refCheck_ev p).1 hm
      exact ⟨(0, 2), Ev.congr (fun k => ring_Root.f.eq_1 k _ _) (Ev.bind h1 (evp rfl (evp hn (Ev.now _)))), Ev.congr (fun k => fringeref10_Root.f.eq_1 k _ _) (Ev.bind h2 (evp rfl (evp hn (Ev.now _))))⟩
    · obtain ⟨q, rfl, h2, h3⟩ := hm
      by_cases hd : Int.tmod ((q - 1 : Nat) : Int) n = 0
      · obtain ⟨m, rfl⟩ := Int.eq_ofNat_of_zero_le (show 0 ≤ n by omega)
        rw [tmodN] at hd
        have hd2 : m ∣ q - 1 := Nat.dvd_of_mod_eq_zero (by omega)
        exact ⟨_, (Root_ev h3 h2 (by omega) hd2).1, (Root_ev h3 h2 (by omega) hd2).2⟩
      · exact ⟨_, (Root_none h3 h2 (by omega) hd).1, (Root_none h3 h2 (by omega) hd).2⟩
  · have h1 := (ring_Check_ev p).2 hm
    have h2 := (refCheck_ev p).2 hm
    exact ⟨(0, 2), Ev.congr (fun k => ring_Root.f.eq_1 k _ _) (Ev.bind h1 (evn (by decide) (Ev.now _))), Ev.congr (fun k => fringeref10_Root.f.eq_1 k _ _) (Ev.bind h2 (evn (by decide) (Ev.bind h2 (Ev.now _))))⟩
/-! lists that are the same -/
theorem same_loop (l : List Int) (hl : l.length ≤ 2000000000) : ∀ (m i : Nat), i + m = l.length → Ev (fun k => fringeref10_Same.l0 k l l i) true := by
  intro m
  induction m with
  | zero =>
    intro i hi
    refine Ev.step (f := fun _ => some true) (fun k => ?_) (Ev.now _)
    simp only [fringeref10_Same.l0]
    rw [if_neg (by omega)]
  | succ m ih =>
    intro i hi
    refine Ev.step (fun k => ?_) (ih (i + 1) (by omega))
    simp only [fringeref10_Same.l0]
    rw [if_pos (by omega), if_pos (by omega), if_pos (by omega), succ1 (by omega)]
    simp
theorem same_ev (l : List Int) (hl : l.length ≤ 2000000000) : Ev (fun k => fringeref10_Same.f k l l) true :=
  Ev.congr (fun k => by unfold fringeref10_Same.f; rw [if_pos rfl]; rfl) (same_loop l hl l.length 0 (by omega))
end Go.Proofs.Ytbeidonfmeengaa.RL
