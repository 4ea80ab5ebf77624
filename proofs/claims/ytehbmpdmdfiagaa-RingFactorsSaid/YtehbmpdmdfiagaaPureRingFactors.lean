/- The factors of a number are moduli, in order, have it as their product, and those of a product are those of both numbers together, for every input. -/
import Derived.Test.YtehbmpdmdfiagaaRL3
import Derived.Test.YtehbmpdmdfiagaaPAllx7
set_option linter.unusedVariables false
set_option linter.unusedSectionVars false
namespace Go.Proofs.Ytehbmpdmdfiagaa.Pure
open Go.RowKit Go.Proofs.Ytehbmpdmdfiagaa.PAll Go.Proofs.YtehbmpdmdfiagaaW.PrintWords Go.Proofs.YtehbmpdmdfiagaaW.PrintLast Go.Proofs.Ytehbmpdmdfiagaa.RL RM

theorem factors_j0 (a b : Int) : Ev (fun k => fringelaw10_RingFactors.j0 k a b true) true := by
  refine Ev.step (fun k => fringelaw10_RingFactors.j0.eq_2 _ _ _ k) ?_
  exact evp rfl (Ev.now true)
/-- How often q stands in l from i on. -/
def cnt (q : Nat) (l : List Nat) : Nat := l.count q
theorem cnt_drop {q : Nat} {l : List Nat} {i : Nat} (h : i < l.length) : cnt q (l.drop i) = (if l[i] = q then 1 else 0) + cnt q (l.drop (i + 1)) := by
  unfold cnt
  rw [List.drop_eq_getElem_cons h, List.count_cons]
  by_cases e : l[i] = q
  · simp [e]; omega
  · simp [e]
theorem pred64 {x : Int} (h0 : -4000000000 ≤ x) (h1 : x ≤ 4000000000) : wrap64 (x - 1) = x - 1 := w64 (by omega) (by omega)
theorem succ64 {x : Int} (h0 : -4000000000 ≤ x) (h1 : x ≤ 4000000000) : wrap64 (x + 1) = x + 1 := w64 (by omega) (by omega)

section
variable {a b : Int} {l m n : List Nat} (hl : l.length ≤ 1000000000) (hm : m.length ≤ 1000000000) (hn : n.length ≤ 1000000000) {x : Int} {i : Nat} (hi : i < n.length) {res : Bool}
include hl hm hn hi
theorem fac_l3 (hE : Ev (fun k => fringelaw10_RingFactors.l0 k a b (cl l) (cl m) (cl n) x ((i + 1 : Nat) : Int)) res) : ∀ (d j : Nat) (c : Int), j + d = n.length → c = cnt n[i] (n.drop j) →
    Ev (fun k => fringelaw10_RingFactors.l3 k a b (cl l) (cl m) (cl n) x i c j) res := by
  intro d
  induction d with
  | zero =>
    intro j c hj hc
    have e : n.drop j = [] := List.drop_eq_nil_of_le (by omega)
    rw [e] at hc
    refine Ev.step (fun k => fringelaw10_RingFactors.l3.eq_2 _ _ _ _ _ _ _ _ _ k) ?_
    rw [cl_length, succ1 (i := i) (by omega)]
    exact evn (by omega) (evp (by simpa [cnt] using hc) hE)
  | succ d ih =>
    intro j c hj hc
    have hlt : j < n.length := by omega
    have hcd := cnt_drop (q := n[i]) hlt
    have hb : cnt n[i] (n.drop (j + 1)) ≤ (n.drop (j + 1)).length := List.count_le_length
    rw [List.length_drop] at hb
    refine Ev.step (fun k => fringelaw10_RingFactors.l3.eq_2 _ _ _ _ _ _ _ _ _ k) ?_
    rw [cl_length, rd_cl n j hlt, rd_cl n i hi, succ1 (i := j) (by omega)]
    refine evp (by omega) (evp (by omega) (evp (by omega) (evp (by omega) ?_)))
    by_cases he : n[j] = n[i]
    · rw [if_pos he] at hcd
      rw [pred64 (by omega) (by omega)]
      exact evp (by rw [he]) (ih (j + 1) (c - 1) (by omega) (by omega))
    · rw [if_neg he] at hcd
      exact evn (by omega) (ih (j + 1) c (by omega) (by omega))
theorem fac_l2 (hE : Ev (fun k => fringelaw10_RingFactors.l0 k a b (cl l) (cl m) (cl n) x ((i + 1 : Nat) : Int)) res) : ∀ (d j : Nat) (c : Int), j + d = m.length → 0 ≤ c → c ≤ 1000000000 → c + cnt n[i] (m.drop j) = cnt n[i] n →
    Ev (fun k => fringelaw10_RingFactors.l2 k a b (cl l) (cl m) (cl n) x i c j) res := by
  have hbn : cnt n[i] n ≤ n.length := List.count_le_length
  intro d
  induction d with
  | zero =>
    intro j c hj h0 h1 hc
    have e : m.drop j = [] := List.drop_eq_nil_of_le (by omega)
    rw [e] at hc
    refine Ev.step (fun k => fringelaw10_RingFactors.l2.eq_2 _ _ _ _ _ _ _ _ _ k) ?_
    rw [cl_length]
    exact evn (by omega) (fac_l3 hl hm hn hi hE n.length 0 c (Nat.zero_add _) (by simpa [cnt] using hc))
  | succ d ih =>
    intro j c hj h0 h1 hc
    have hlt : j < m.length := by omega
    have hcd := cnt_drop (q := n[i]) hlt
    refine Ev.step (fun k => fringelaw10_RingFactors.l2.eq_2 _ _ _ _ _ _ _ _ _ k) ?_
    rw [cl_length, cl_length, rd_cl m j hlt, rd_cl n i hi, succ1 (i := j) (by omega)]
    refine evp (by omega) (evp (by omega) (evp (by omega) (evp (by omega) ?_)))
    by_cases he : m[j] = n[i]
    · rw [if_pos he] at hcd
      rw [succ64 (by omega) (by omega)]
      exact evp (by rw [he]) (ih (j + 1) (c + 1) (by omega) (by omega) (by omega) (by omega))
    · rw [if_neg he] at hcd
      exact evn (by omega) (ih (j + 1) c (by omega) h0 h1 (by omega))
theorem fac_l1 (hE : Ev (fun k => fringelaw10_RingFactors.l0 k a b (cl l) (cl m) (cl n) x ((i + 1 : Nat) : Int)) res) : ∀ (d j : Nat) (c : Int), j + d = l.length → 0 ≤ c → c ≤ 1000000000 → c + cnt n[i] (l.drop j) + cnt n[i] m = cnt n[i] n →
    Ev (fun k => fringelaw10_RingFactors.l1 k a b (cl l) (cl m) (cl n) x i c j) res := by
  have hbn : cnt n[i] n ≤ n.length := List.count_le_length
  intro d
  induction d with
  | zero =>
    intro j c hj h0 h1 hc
    have e : l.drop j = [] := List.drop_eq_nil_of_le (by omega)
    rw [e] at hc
    refine Ev.step (fun k => fringelaw10_RingFactors.l1.eq_2 _ _ _ _ _ _ _ _ _ k) ?_
    rw [cl_length]
    exact evn (by omega) (fac_l2 hl hm hn hi hE m.length 0 c (Nat.zero_add _) h0 h1 (by simpa [cnt] using hc))
  | succ d ih =>
    intro j c hj h0 h1 hc
    have hlt : j < l.length := by omega
    have hcd := cnt_drop (q := n[i]) hlt
    refine Ev.step (fun k => fringelaw10_RingFactors.l1.eq_2 _ _ _ _ _ _ _ _ _ k) ?_
    rw [cl_length, cl_length, rd_cl l j hlt, rd_cl n i hi, succ1 (i := j) (by omega)]
    refine evp (by omega) (evp (by omega) (evp (by omega) (evp (by omega) ?_)))
    by_cases he : l[j] = n[i]
    · rw [if_pos he] at hcd
      rw [succ64 (by omega) (by omega)]
      exact evp (by rw [he]) (ih (j + 1) (c + 1) (by omega) (by omega) (by omega) (by omega))
    · rw [if_neg he] at hcd
      exact evn (by omega) (ih (j + 1) c (by omega) h0 h1 (by omega))
end
theorem fac_loop {a b : Nat} (ha : 1 ≤ a) (hb : 1 ≤ b) (ha2 : a ≤ 44000) (hb2 : b ≤ 44000) : ∀ (d i : Nat), i + d = (pfl (a * b)).length →
    Ev (fun k => fringelaw10_RingFactors.l0 k a b (cl (pfl a)) (cl (pfl b)) (cl (pfl (a * b))) ((prod ((pfl (a * b)).take i) : Nat) : Int) i) true := by
  have hab : a * b ≤ 44000 * 44000 := Nat.mul_le_mul ha2 hb2
  have hpos : 1 ≤ a * b := Nat.mul_pos ha hb
  have hperm := pfl_mul ha hb
  have hprod := pfl_prod (a * b) hpos
  have hla := pfl_length_le a ha
  have hlb := pfl_length_le b hb
  have hlab : (pfl (a * b)).length = (pfl a).length + (pfl b).length := by rw [hperm.length_eq, List.length_append]
  have hprime := pfl_prime (a * b)
  have hsorted : ∀ i (h : i + 1 < (pfl (a * b)).length), (pfl (a * b))[i]'(Nat.lt_of_succ_lt h) ≤ (pfl (a * b))[i + 1]'h := fun i h => pfl_sorted (a * b) i h
  have hdvd := fun q => pfl_dvd (n := a * b) (q := q) hpos
  have hcount : ∀ q, cnt q (pfl a) + cnt q (pfl b) = cnt q (pfl (a * b)) := fun q => by
    unfold cnt
    rw [hperm.count_eq, List.count_append]
  generalize pfl (a * b) = n at *
  generalize pfl a = l at *
  generalize pfl b = m at *
  have hmul : wrap64 ((a : Int) * (b : Int)) = ((a * b : Nat) : Int) := by rw [mulN, w64N (by omega)]
  intro d
  induction d with
  | zero =>
    intro i hi
    refine Ev.step (fun k => fringelaw10_RingFactors.l0.eq_2 _ _ _ _ _ _ _ k) ?_
    rw [cl_length, List.take_of_length_le (by omega), hprod, hmul]
    exact evn (by omega) (evp rfl (Ev.now true))
  | succ d ih =>
    intro i hi
    have hlt : i < n.length := by omega
    have hmem := List.getElem_mem hlt
    have hq := hprime _ hmem
    have hq2 := Nat.le_of_dvd hpos (hdvd _ hmem)
    have hM : Mod ((n[i] : Nat) : Int) := ⟨_, rfl, by omega, hq⟩
    have hpt : prod (n.take i) * n[i] = prod (n.take (i + 1)) := by
      rw [List.take_succ_eq_append_getElem hlt, prod_append]
      simp [prod]
    have hpt2 : prod (n.take (i + 1)) ≤ a * b := by
      rw [← hprod]
      conv => rhs; rw [← List.take_append_drop (i + 1) n]
      rw [prod_append]
      exact Nat.le_mul_of_pos_right _ (prod_pos (fun x hx => hprime x (List.mem_of_mem_drop hx)))
    have hstep : wrap64 (((prod (n.take i) : Nat) : Int) * ((n[i] : Nat) : Int)) = ((prod (n.take (i + 1)) : Nat) : Int) := by
      rw [mulN, hpt, w64N (by omega)]
    have hj3 : Ev (fun k => fringelaw10_RingFactors.j3 k a b (cl l) (cl m) (cl n) ((prod (n.take i) : Nat) : Int) i false) true := by
      refine Ev.step (fun k => fringelaw10_RingFactors.j3.eq_2 _ _ _ _ _ _ _ _ k) (evn (by decide) ?_)
      rw [cl_length, rd_cl n i hlt, hstep]
      refine evp (by omega) (evp (by omega) ?_)
      exact fac_l1 (by omega) (by omega) (by omega) hlt (ih (i + 1) (by omega)) l.length 0 0 (Nat.zero_add _) (by omega) (by omega) (by have := hcount n[i]; simp; omega)
    refine Ev.step (fun k => fringelaw10_RingFactors.l0.eq_2 _ _ _ _ _ _ _ k) ?_
    rw [cl_length, rd_cl n i hlt]
    refine evp (by omega) (evp (by omega) (Ev.bind ((ring_Check_ev _).1 hM) (evp rfl ?_)))
    by_cases h0 : i = 0
    · subst h0
      exact evn (by omega) hj3
    · obtain ⟨i', rfl⟩ : ∃ i', i = i' + 1 := ⟨i - 1, by omega⟩
      have e1 : wrap64 (((i' + 1 : Nat) : Int) - 1) = (i' : Int) := by rw [w64 (by omega) (by omega)]; omega
      rw [e1, rd_cl n i' (by omega)]
      have hs := hsorted i' hlt
      rw [decide_eq_false (by omega)]
      exact evp (by omega) (evp (by omega) (evp (by omega) hj3))

theorem RingFactors : fringelaw10_RingFactors.Pure := by
  intro a b hwa hwb
  refine Ev.rounds (Ev.congr (fun k => fringelaw10_RingFactors.f.eq_1 k a b) ?_)
  by_cases h1 : a < 1
  · exact evp h1 (factors_j0 _ _)
  refine evn h1 ?_
  by_cases h2 : b < 1
  · exact evp h2 (factors_j0 _ _)
  refine evn h2 ?_
  by_cases h3 : a > 44000
  · exact evp h3 (factors_j0 _ _)
  refine evn h3 ?_
  by_cases h4 : b > 44000
  · rw [decide_eq_true h4]; exact factors_j0 _ _
  rw [decide_eq_false h4]
  obtain ⟨a, rfl⟩ := Int.eq_ofNat_of_zero_le (show 0 ≤ a by omega)
  obtain ⟨b, rfl⟩ := Int.eq_ofNat_of_zero_le (show 0 ≤ b by omega)
  have hab : a * b ≤ 44000 * 44000 := Nat.mul_le_mul (by omega) (by omega)
  have hpos : 1 ≤ a * b := Nat.mul_pos (by omega) (by omega)
  have hmul : wrap64 ((a : Int) * (b : Int)) = ((a * b : Nat) : Int) := by rw [mulN, w64N (by omega)]
  have hlen := (pfl_mul (a := a) (b := b) (by omega) (by omega)).length_eq
  rw [List.length_append] at hlen
  have hla := pfl_length_le a (by omega)
  have hlb := pfl_length_le b (by omega)
  refine Ev.step (fun k => fringelaw10_RingFactors.j0.eq_2 _ _ _ k) (evn (by decide) ?_)
  rw [hmul]
  refine Ev.bind (ring_Factors_ev (n := a) (by omega) (by omega)) (Ev.bind (ring_Factors_ev (n := b) (by omega) (by omega)) (Ev.bind (ring_Factors_ev (n := a * b) hpos (by omega)) (evp rfl (evp rfl (evp rfl ?_)))))
  have e1 : (((cl (pfl (a * b))).length : Int) != wrap64 (((cl (pfl a)).length : Int) + ((cl (pfl b)).length : Int))) = false := by
    rw [cl_length, cl_length, cl_length, w64 (by omega) (by omega), hlen]
    simp
  simp only
  rw [e1]
  refine Ev.step (fun k => fringelaw10_RingFactors.j1.eq_2 _ _ _ _ _ _ k) (evn (by decide) ?_)
  exact fac_loop (by omega) (by omega) (by omega) (by omega) _ 0 (Nat.zero_add _)

end Go.Proofs.Ytehbmpdmdfiagaa.Pure
