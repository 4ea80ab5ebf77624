/- Texts that belong together, put into one: SM, LM, LG, CK, LF, LT, LO, LA. -/
import Derived.Test.YtajdbccapandgaaPAllx6
import Derived.Test.YtajdbccapandgaaPAllx8
import Derived.Test.YtajdbccapandgaaPAllx22
import Derived.Test.YtajdbccapandgaaPAllx16
import Derived.Test.YtajdbccapandgaaPAllx24
import Derived.Test.YtajdbccapandgaaPAllx9
import Derived.Test.YtajdbccapandgaaPAllx11
import Derived.Test.YtajdbccapandgaaPAllx10
import Derived.Test.YtajdbccapandgaaPAllx12
import Derived.Test.YtajdbccapandgaaPAllx13
set_option linter.unusedVariables false
set_option linter.unusedSectionVars false
set_option linter.unusedSimpArgs false
/- Fringe search: the sums of products, the turned sums, the cells and which one is best, over lists of integers. No program in sight. -/
namespace SM

def okd (x : Int) : Prop := x = 0 ∨ x = -3 ∨ x = -1 ∨ x = 1 ∨ x = 3
def str (l : List Int) : Prop := l.length ≤ 256 ∧ ∀ x ∈ l, okd x
theorem str_get {l : List Int} (h : str l) (k : Nat) : okd (l.getD k 0) := by
  by_cases hk : k < l.length
  · simp only [List.getD_eq_getElem?_getD, List.getElem?_eq_getElem hk, Option.getD_some]
    exact h.2 _ (List.getElem_mem hk)
  · simp only [List.getD_eq_getElem?_getD, List.getElem?_eq_none (Nat.le_of_not_lt hk), Option.getD_none]
    exact .inl rfl
theorem okd_mul {a b : Int} (ha : okd a) (hb : okd b) : -9 ≤ a * b ∧ a * b ≤ 9 := by
  rcases ha with rfl | rfl | rfl | rfl | rfl <;> rcases hb with rfl | rfl | rfl | rfl | rfl <;> decide
theorem str_nil : str [] := ⟨by simp, fun x h => by simp at h⟩

section
variable (x y : List Int) (d : Int)
def pr (k : Nat) : Int := if 0 ≤ (k : Int) + d ∧ (k : Int) + d < y.length then x.getD k 0 * y.getD ((k : Int) + d).toNat 0 else 0
theorem pr_bound (hx : str x) (hy : str y) (k : Nat) : -9 ≤ pr x y d k ∧ pr x y d k ≤ 9 := by
  unfold pr
  split
  · exact okd_mul (str_get hx _) (str_get hy _)
  · omega
variable (st : Nat)
def S (t : Nat) : Nat → Int
  | 0 => 0
  | k + 1 => S t k + if k / st % 4 = t then pr x y d k else 0
theorem S_bound (hx : str x) (hy : str y) (t n : Nat) : -9 * (n : Int) ≤ S x y d st t n ∧ S x y d st t n ≤ 9 * (n : Int) := by
  induction n with
  | zero => simp [S]
  | succ n ih =>
    have := pr_bound x y d hx hy n
    rw [S]
    split <;> omega
end
def Tz (q a b : Int) : Int × Int := if q % 4 = 0 then (a, b) else if q % 4 = 1 then (-b, a) else if q % 4 = 2 then (-a, -b) else (b, -a)
def V (r : Int) (s : Nat → Int) : Int × Int := if r = 0 then (s 0 + s 1 + s 2 + s 3, 0) else if r = 1 then (s 0 - s 2, s 3 - s 1) else if r = 2 then (s 0 - s 1 + s 2 - s 3, 0) else (s 0 - s 2, s 1 - s 3)
section
variable (x y : List Int) (d : Int) (st : Nat) (r : Int)
def W : Nat → Int × Int
  | 0 => (0, 0)
  | k + 1 => ((W k).1 + (Tz (-r * ((k / st : Nat) : Int)) (pr x y d k) 0).1, (W k).2 + (Tz (-r * ((k / st : Nat) : Int)) (pr x y d k) 0).2)
theorem W_eq (hr : 0 ≤ r ∧ r ≤ 3) (n : Nat) : W x y d st r n = V r (fun t => S x y d st t n) := by
  induction n with
  | zero =>
    unfold V W
    simp only [S]
    split
    · rfl
    · split
      · rfl
      · split <;> rfl
  | succ n ih =>
    rw [W, ih]
    unfold V Tz
    simp only [S]
    generalize n / st = m
    generalize pr x y d n = p
    have hm : (m % 4 = 0 ∨ m % 4 = 1) ∨ m % 4 = 2 ∨ m % 4 = 3 := by omega
    have hr4 : (r = 0 ∨ r = 1) ∨ r = 2 ∨ r = 3 := by omega
    rcases hr4 with (rfl | rfl) | rfl | rfl <;> rcases hm with (h | h) | h | h <;> rw [h]
    all_goals first
      | (have e : -0 * (m : Int) % 4 = 0 := by omega
         rw [e]; simp; omega)
      | (have e : -1 * (m : Int) % 4 = 0 := by omega
         rw [e]; simp; try omega)
      | (have e : -1 * (m : Int) % 4 = 1 := by omega
         rw [e]; simp; try omega)
      | (have e : -1 * (m : Int) % 4 = 2 := by omega
         rw [e]; simp; try omega)
      | (have e : -1 * (m : Int) % 4 = 3 := by omega
         rw [e]; simp; try omega)
      | (have e : -2 * (m : Int) % 4 = 0 := by omega
         rw [e]; simp; try omega)
      | (have e : -2 * (m : Int) % 4 = 2 := by omega
         rw [e]; simp; try omega)
      | (have e : -3 * (m : Int) % 4 = 0 := by omega
         rw [e]; simp; try omega)
      | (have e : -3 * (m : Int) % 4 = 1 := by omega
         rw [e]; simp; try omega)
      | (have e : -3 * (m : Int) % 4 = 2 := by omega
         rw [e]; simp; try omega)
      | (have e : -3 * (m : Int) % 4 = 3 := by omega
         rw [e]; simp; try omega)
end
theorem V_bound {s : Nat → Int} (h : ∀ t, -2304 ≤ s t ∧ s t ≤ 2304) (r : Int) : (-9216 ≤ (V r s).1 ∧ (V r s).1 ≤ 9216) ∧ -9216 ≤ (V r s).2 ∧ (V r s).2 ≤ 9216 := by
  have h0 := h 0
  have h1 := h 1
  have h2 := h 2
  have h3 := h 3
  unfold V
  split
  · dsimp only; omega
  · split
    · dsimp only; omega
    · split <;> dsimp only <;> omega
def pw (v : Int × Int) : Int := v.1 * v.1 + v.2 * v.2
theorem sq_bound {a b : Int} (hb : 0 ≤ b) (h1 : -b ≤ a) (h2 : a ≤ b) : 0 ≤ a * a ∧ a * a ≤ b * b := by
  constructor
  · rcases Int.le_total 0 a with h | h
    · exact Int.mul_nonneg h h
    · exact Int.mul_nonneg_of_nonpos_of_nonpos h h
  · rcases Int.le_total 0 a with h | h
    · exact Int.mul_le_mul h2 h2 h hb
    · have := Int.mul_le_mul (show -a ≤ b by omega) (show -a ≤ b by omega) (by omega) hb
      rwa [Int.neg_mul_neg] at this
theorem parseval (s : Nat → Int) : pw (V 0 s) + pw (V 1 s) + pw (V 2 s) + pw (V 3 s) = 4 * (s 0 * s 0 + s 1 * s 1 + s 2 * s 2 + s 3 * s 3) := by
  simp only [pw, V]
  simp
  generalize s 0 = a
  generalize s 1 = b
  generalize s 2 = c
  generalize s 3 = e
  grind
end SM
set_option linter.unusedVariables false
set_option linter.unusedSectionVars false
/- The sum and the count of a lag. No program in sight. -/
namespace SM
section
variable (x y : List Int) (d : Int)
def tot : Nat → Int
  | 0 => 0
  | k + 1 => tot k + pr x y d k
def cnt : Nat → Int
  | 0 => 0
  | k + 1 => cnt k + if pr x y d k = 0 then 0 else 1
theorem tot_bound (hx : str x) (hy : str y) (n : Nat) : -9 * (n : Int) ≤ tot x y d n ∧ tot x y d n ≤ 9 * (n : Int) := by
  induction n with
  | zero => simp [tot]
  | succ n ih =>
    have := pr_bound x y d hx hy n
    rw [tot]
    omega
theorem cnt_bound (n : Nat) : 0 ≤ cnt x y d n ∧ cnt x y d n ≤ n := by
  induction n with
  | zero => simp [cnt]
  | succ n ih =>
    rw [cnt]
    split <;> omega
theorem S_sum (st n : Nat) : S x y d st 0 n + S x y d st 1 n + S x y d st 2 n + S x y d st 3 n = tot x y d n := by
  induction n with
  | zero => rfl
  | succ n ih =>
    simp only [S, tot]
    have hm : (n / st % 4 = 0 ∨ n / st % 4 = 1) ∨ n / st % 4 = 2 ∨ n / st % 4 = 3 := by omega
    rcases hm with (h | h) | h | h <;> rw [h] <;> simp <;> omega
end
end SM
set_option linter.unusedVariables false
set_option linter.unusedSectionVars false
set_option linter.unusedSimpArgs false
namespace Go.Proofs.Ytajdbccapandgaa.LG
open Go Go.RowKit Go.Proofs.Ytajdbccapandgaa.PAll Go.Proofs.YtajdbccapandgaaW.PrintWords Go.Proofs.YtajdbccapandgaaW.PrintLast SM

theorem evp {α : Type} {c : Prop} [Decidable c] {g f : Nat → Option α} {r : α} (h : c) (e : Ev g r) : Ev (fun k => if c then g k else f k) r := Ev.congr (fun k => if_pos h) e
theorem evn {α : Type} {c : Prop} [Decidable c] {g f : Nat → Option α} {r : α} (h : ¬ c) (e : Ev f r) : Ev (fun k => if c then g k else f k) r := Ev.congr (fun k => if_neg h) e
theorem w64 {x : Int} (h0 : -9223372036854775808 ≤ x) (h1 : x ≤ 9223372036854775807) : wrap64 x = x := by unfold wrap64; omega
theorem succ1 {i : Nat} (hi : i ≤ 4000000000) : wrap64 ((i : Int) + 1) = ((i + 1 : Nat) : Int) := by
  rw [w64 (by omega) (by omega)]; rfl
theorem rdD (l : List Int) (k : Nat) : rd l (k : Int) = l.getD k 0 := by simp [rd]
def chk (l : List Int) : Int := if (l.length : Int) > 256 then 4 else if l.all sample_okd then 0 else 8
theorem okd_iff (x : Int) : sample_okd x = true ↔ okd x := by
  unfold sample_okd okd
  simp [or_assoc]
theorem chk_str {l : List Int} (h : chk l = 0) : str l := by
  unfold chk at h
  split at h
  · omega
  · rename_i h1
    split at h
    · rename_i h2
      exact ⟨by omega, fun x hx => (okd_iff x).1 (List.all_eq_true.1 h2 x hx)⟩
    · omega
theorem str_chk {l : List Int} (h : str l) : chk l = 0 := by
  unfold chk
  have := h.1
  rw [if_neg (by omega), if_pos (List.all_eq_true.2 fun x hx => (okd_iff x).2 (h.2 x hx))]
theorem sample_Check_eq (l : List Int) : sample_Check.f l = some (chk l) := rfl
abbrev SL := S39
def lagE (x y : List Int) (d : Int) (n : Nat) : SL := ⟨tot x y d n, cnt x y d n⟩
def lagL (x y : List Int) (most : Nat) : Nat → List SL
  | 0 => []
  | j + 1 => lagL x y most j ++ [lagE x y ((j : Int) - most) x.length]
theorem lagL_length (x y : List Int) (most : Nat) : ∀ n, (lagL x y most n).length = n
  | 0 => rfl
  | n + 1 => by rw [lagL, List.length_append, lagL_length x y most n]; rfl
theorem lagL_get (x y : List Int) (most i : Nat) : ∀ n, i < n → (lagL x y most n)[i]? = some (lagE x y ((i : Int) - most) x.length)
  | 0, h => by omega
  | n + 1, h => by
    rw [lagL]
    by_cases hi : i < n
    · rw [List.getElem?_append_left (by rw [lagL_length]; exact hi)]
      exact lagL_get x y most i n hi
    · have e : i = n := by omega
      subst e
      rw [List.getElem?_append_right (by rw [lagL_length]; omega), lagL_length]
      simp
theorem rdL (l : List SL) (i : Nat) (e : SL) (h : l[i]? = some e) : rd_T39 l (i : Int) = e := by
  simp [rd_T39, List.getD_eq_getElem?_getD, h]
theorem set_mid {α : Type} (P : List α) (e e' : α) (R : List α) : (P ++ e :: R).set P.length e' = P ++ e' :: R := by simp [List.set_append_right]
theorem get_mid {α : Type} (P : List α) (e : α) (R : List α) : (P ++ e :: R)[P.length]? = some e := by simp
section
variable {x y : List Int} {d : Int} (hx : str x) (hy : str y) (hd : -1000 ≤ d ∧ d ≤ 1000)
include hx hy hd
theorem prod_eq (k : Nat) (h : 0 ≤ (k : Int) + d ∧ (k : Int) + d < y.length) : wrap64 (rd x k * rd y ((k : Int) + d)) = pr x y d k := by
  have hb := pr_bound x y d hx hy k
  unfold pr at hb ⊢
  rw [if_pos h] at hb ⊢
  rw [rdD]
  unfold rd
  exact w64 (by omega) (by omega)
theorem lag_row {a2 x36 : Int} {P R : List SL} {res : List SL × Int} (h : Ev (fun k => lag_Of.l0 k x y a2 (P ++ lagE x y d x.length :: R) x36 (wrap64 ((P.length : Int) + 1))) res) : ∀ (m i : Nat), i + m = x.length →
    Ev (fun k => lag_Of.l1 k x y a2 (P ++ lagE x y d i :: R) (P.length : Int) d x36 (P.length : Int) (x.length : Int) i) res := by
  intro m
  have hl := hx.1
  have hly := hy.1
  induction m with
  | zero =>
    intro i hi
    have : i = x.length := by omega
    subst this
    exact Ev.step (fun k => lag_Of.l1.eq_2 _ _ _ _ _ _ _ _ _ _ k) (evn (by omega) h)
  | succ m ih =>
    intro i hi
    have ih := ih (i + 1) (by omega)
    have hb := pr_bound x y d hx hy i
    have ht := tot_bound x y d hx hy i
    have hc := cnt_bound x y d i
    have e0 : wrap64 ((i : Int) + d) = (i : Int) + d := w64 (by omega) (by omega)
    refine Ev.step (fun k => lag_Of.l1.eq_2 _ _ _ _ _ _ _ _ _ _ k) (evp (by omega) ?_)
    rw [e0]
    by_cases hcc : 0 ≤ (i : Int) + d ∧ (i : Int) + d < y.length
    · have hp := prod_eq hx hy hd i hcc
      refine evn (by omega) ?_
      rw [decide_eq_false (by omega)]
      refine Ev.step (fun k => lag_Of.j3.eq_2 _ _ _ _ _ _ _ _ _ _ _ _ k) (evn (by decide) ?_)
      rw [e0, hp, succ1 (by omega)]
      refine evp (by omega) (evp (by omega) (evp (by omega) (evp (by omega) ?_)))
      by_cases hz : pr x y d i = 0
      · have e : lagE x y d (i + 1) = lagE x y d i := by
          unfold lagE
          rw [tot, cnt, if_pos hz, hz]
          simp
        rw [e] at ih
        exact evp hz ih
      · refine evn hz (evp (by omega) (evp (by simp; omega) (Ev.bind (Ev.now _) ?_)))
        rw [rdL _ _ _ (get_mid P (lagE x y d i) R), Int.toNat_natCast, set_mid, rdL _ _ _ (get_mid P _ R), set_mid]
        have e : lagE x y d (i + 1) = ⟨wrap64 ((lagE x y d i).f0 + pr x y d i), wrap64 ((lagE x y d i).f1 + 1)⟩ := by
          unfold lagE
          dsimp only
          rw [tot, cnt, if_neg hz, w64 (by omega) (by omega), w64 (by omega) (by omega)]
        rw [e] at ih
        exact ih
    · have ep : pr x y d i = 0 := if_neg hcc
      have e : lagE x y d (i + 1) = lagE x y d i := by
        unfold lagE
        rw [tot, cnt, if_pos ep, ep]
        simp
      rw [e] at ih
      by_cases hneg : (i : Int) + d < 0
      · refine evp hneg ?_
        refine Ev.step (fun k => lag_Of.j3.eq_2 _ _ _ _ _ _ _ _ _ _ _ _ k) (evp rfl ?_)
        rw [succ1 (by omega)]
        exact ih
      · refine evn hneg ?_
        rw [decide_eq_true (show (i : Int) + d ≥ y.length by omega)]
        refine Ev.step (fun k => lag_Of.j3.eq_2 _ _ _ _ _ _ _ _ _ _ _ _ k) (evp rfl ?_)
        rw [succ1 (by omega)]
        exact ih
end
theorem lag_loop {x y : List Int} (hx : str x) (hy : str y) {most : Nat} (hm : most ≤ 255) : ∀ (m j : Nat), j + m = 2 * most + 1 →
    Ev (fun k => lag_Of.l0 k x y most (lagL x y most j ++ List.replicate m z39) ((2 * most + 1 : Nat) : Int) j) (lagL x y most (2 * most + 1), 0) := by
  intro m
  induction m with
  | zero =>
    intro j hj
    have : j = 2 * most + 1 := by omega
    subst this
    refine Ev.step (fun k => lag_Of.l0.eq_2 _ _ _ _ _ _ k) (evn (by omega) ?_)
    rw [List.replicate_zero, List.append_nil]
    exact Ev.now _
  | succ m ih =>
    intro j hj
    have ih := ih (j + 1) (by omega)
    rw [lagL, List.append_assoc] at ih
    refine Ev.step (fun k => lag_Of.l0.eq_2 _ _ _ _ _ _ k) (evp (by omega) ?_)
    rw [w64 (x := (j : Int) - most) (by omega) (by omega)]
    have h := lag_row (d := (j : Int) - most) (a2 := most) (x36 := ((2 * most + 1 : Nat) : Int)) (P := lagL x y most j) (R := List.replicate m z39) (res := (lagL x y most (2 * most + 1), 0)) hx hy (by omega) (by
      rw [lagL_length, succ1 (by omega)]
      exact ih) x.length 0 (Nat.zero_add _)
    rw [lagL_length] at h
    exact h
theorem lag_ev {x y : List Int} (hx : str x) (hy : str y) {most : Nat} (hm : most ≤ 255) : Ev (fun k => lag_Of.f k x y most) (lagL x y most (2 * most + 1), 0) := by
  refine Ev.congr (fun k => lag_Of.f.eq_1 k _ _ _) ?_
  rw [sample_Check_eq, sample_Check_eq, str_chk hx, str_chk hy]
  refine Ev.bind (Ev.now _) (evp rfl (Ev.bind (Ev.now _) (evp rfl (evn (by omega) ?_))))
  rw [decide_eq_false (by omega)]
  have e : wrap64 (wrap64 (2 * (most : Int)) + 1) = ((2 * most + 1 : Nat) : Int) := by
    rw [w64 (x := 2 * (most : Int)) (by omega) (by omega), w64 (by omega) (by omega)]
    omega
  refine Ev.step (fun k => lag_Of.j0.eq_2 _ _ _ _ k) (evn (by decide) ?_)
  rw [e]
  refine evp (by omega) (evp (by omega) (Ev.bind (Ev.now _) ?_))
  rw [List.length_replicate, Int.toNat_natCast]
  exact lag_loop hx hy hm _ 0 (Nat.zero_add _)
end Go.Proofs.Ytajdbccapandgaa.LG
set_option linter.unusedVariables false
set_option linter.unusedSectionVars false
namespace Go.Proofs.Ytajdbccapandgaa.LG
open Go Go.RowKit Go.Proofs.Ytajdbccapandgaa.PAll Go.Proofs.YtajdbccapandgaaW.PrintWords Go.Proofs.YtajdbccapandgaaW.PrintLast SM

theorem Digit_eq (x : Int) : ∃ d, fringeref13_Digit.f x = some d ∧ (d < 0 ↔ ¬ sample_okd x = true) := by
  rw [okd_iff]
  unfold fringeref13_Digit.f okd
  by_cases h0 : x = 0
  · exact ⟨0, if_pos h0, by omega⟩
  rw [if_neg h0]
  by_cases h1 : x = -3
  · exact ⟨1, if_pos h1, by omega⟩
  rw [if_neg h1]
  by_cases h2 : x = -1
  · exact ⟨2, if_pos h2, by omega⟩
  rw [if_neg h2]
  by_cases h3 : x = 1
  · exact ⟨3, if_pos h3, by omega⟩
  rw [if_neg h3]
  by_cases h4 : x = 3
  · exact ⟨4, if_pos h4, by omega⟩
  rw [if_neg h4]
  exact ⟨-1, rfl, by omega⟩
theorem refCheck_loop (l : List Int) (hl : l.length ≤ 256) : ∀ (m i : Nat), i + m = l.length → Ev (fun k => fringeref13_Check.l0 k l i) (if (l.drop i).all sample_okd then 0 else 8) := by
  intro m
  induction m with
  | zero =>
    intro i hi
    refine Ev.step (fun k => fringeref13_Check.l0.eq_2 _ _ k) ?_
    rw [List.drop_eq_nil_of_le (by omega)]
    exact evn (by omega) (Ev.now 0)
  | succ m ih =>
    intro i hi
    have hlt : i < l.length := by omega
    refine Ev.step (fun k => fringeref13_Check.l0.eq_2 _ _ k) ?_
    refine evp (by omega) (evp (by omega) ?_)
    obtain ⟨d, e, hd⟩ := Digit_eq (rd l i)
    rw [e, succ1 (by omega)]
    have hr : rd l i = l[i] := by rw [rdD]; simp [hlt]
    rw [hr] at hd
    rw [List.drop_eq_getElem_cons hlt, List.all_cons]
    refine Ev.bind (Ev.now d) ?_
    by_cases hneg : d < 0
    · have := hd.1 hneg
      rw [Bool.eq_false_iff.2 this]
      exact evp hneg (Ev.now 8)
    · have : sample_okd l[i] = true := by
        rcases Bool.eq_false_or_eq_true (sample_okd l[i]) with h | h
        · exact h
        · exact absurd (hd.2 (by rw [h]; decide)) hneg
      rw [this]
      exact evn hneg (ih (i + 1) (by omega))
theorem refCheck_ev (l : List Int) : Ev (fun k => fringeref13_Check.f k l) (chk l) := by
  refine Ev.congr (fun k => fringeref13_Check.f.eq_1 k _) ?_
  unfold chk
  by_cases h : (l.length : Int) > 256
  · rw [if_pos h]; exact evp h (Ev.now 4)
  · rw [if_neg h]; exact evn h (refCheck_loop l (by omega) l.length 0 (Nat.zero_add _))
end Go.Proofs.Ytajdbccapandgaa.LG
set_option linter.unusedVariables false
set_option linter.unusedSectionVars false
namespace Go.Proofs.Ytajdbccapandgaa.LG
open Go Go.RowKit Go.Proofs.Ytajdbccapandgaa.PAll Go.Proofs.YtajdbccapandgaaW.PrintWords Go.Proofs.YtajdbccapandgaaW.PrintLast SM

theorem fit_ev (x : List Int) : ∃ b, Ev (fun k => fringelaw16_fit.f k x) b ∧ (b = true → str x) := by
  have hl : ∀ l : List Int, fringeref13_Long.f l = some (decide ((l.length : Int) > 300)) := fun l => rfl
  have hF : ∀ k, fringelaw16_fit.f k x = _ := fun k => fringelaw16_fit.f.eq_1 k x
  simp only [hl] at hF
  by_cases h1 : decide ((x.length : Int) > 300) = true
  · exact ⟨false, Ev.congr hF (Ev.bind (Ev.now _) (evp h1 (Ev.now _))), fun h => by contradiction⟩
  · refine ⟨(chk x == 0), Ev.congr hF (Ev.bind (Ev.now _) (evn h1 (Ev.bind (refCheck_ev x) (Ev.now _)))), fun h => chk_str (beq_iff_eq.1 h)⟩
/-! two streams that fit, or nothing is asked -/
theorem fits {x y : List Int} {f g : Nat → Option Bool} (hg : Ev g true) (hf : str x → str y → Ev f true) :
    Ev (fun k => (fringelaw16_fit.f k x).bind fun t => (if t = true then ((fringelaw16_fit.f k y).bind fun t => (if t = true then f k else g k)) else g k)) true := by
  obtain ⟨b, hb, hs⟩ := fit_ev x
  obtain ⟨c, hc, ht⟩ := fit_ev y
  refine Ev.bind hb ?_
  cases b with
  | false => exact evn (by decide) hg
  | true =>
    refine evp rfl (Ev.bind hc ?_)
    cases c with
    | false => exact evn (by decide) hg
    | true => exact evp rfl (hf (hs rfl) (ht rfl))
end Go.Proofs.Ytajdbccapandgaa.LG
set_option linter.unusedVariables false
set_option linter.unusedSectionVars false
/- All lags together: the product of the sums, and of the counts. No program in sight. -/
namespace SM

def YS (y : List Int) : Nat → Int
  | 0 => 0
  | m + 1 => YS y m + y.getD m 0
theorem YS_past (y : List Int) : ∀ m, y.length ≤ m → YS y m = YS y y.length := by
  intro m
  induction m with
  | zero => intro h; rw [Nat.le_zero.1 h]
  | succ m ih =>
    intro h
    by_cases h1 : y.length ≤ m
    · rw [YS, ih h1]
      have : y.getD m 0 = 0 := by simp [List.getD_eq_getElem?_getD, List.getElem?_eq_none h1]
      omega
    · have : y.length = m + 1 := by omega
      rw [this]
def sumJ (f : Nat → Int) : Nat → Int
  | 0 => 0
  | j + 1 => sumJ f j + f j
theorem sumJ_add (f g : Nat → Int) : ∀ J, sumJ (fun j => f j + g j) J = sumJ f J + sumJ g J
  | 0 => rfl
  | J + 1 => by rw [sumJ, sumJ, sumJ, sumJ_add f g J]; omega
theorem sumJ_zero : ∀ J, sumJ (fun _ => 0) J = 0
  | 0 => rfl
  | J + 1 => by rw [sumJ, sumJ_zero J]; rfl
section
variable (x y : List Int) (M : Nat)
theorem row_sum (k : Nat) (hk : k ≤ M) : ∀ J, sumJ (fun j => pr x y ((j : Int) - M) k) J = x.getD k 0 * YS y (k + J - M) := by
  intro J
  induction J with
  | zero =>
    rw [show k + 0 - M = 0 by omega]
    simp [sumJ, YS]
  | succ J ih =>
    rw [sumJ, ih]
    unfold pr
    by_cases h0 : M ≤ k + J
    · have e1 : k + (J + 1) - M = (k + J - M) + 1 := by omega
      have e2 : ((k : Int) + ((J : Int) - M)).toNat = k + J - M := by omega
      rw [e1, YS, e2]
      by_cases h1 : k + J - M < y.length
      · rw [if_pos (by omega), Int.mul_add]
      · have e : y.getD (k + J - M) 0 = 0 := by simp [List.getD_eq_getElem?_getD, List.getElem?_eq_none (Nat.le_of_not_lt h1)]
        rw [if_neg (by omega), e]
        simp
    · have e1 : k + (J + 1) - M = 0 := by omega
      have e2 : k + J - M = 0 := by omega
      rw [if_neg (by omega), e1, e2, YS]
      simp
theorem all_sum (hx : x.length ≤ M + 1) (hy : y.length ≤ M + 1) : ∀ n, n ≤ x.length → sumJ (fun j => tot x y ((j : Int) - M) n) (2 * M + 1) = YS x n * YS y y.length := by
  intro n
  induction n with
  | zero =>
    intro _
    simp only [tot]
    rw [sumJ_zero]
    simp [YS]
  | succ n ih =>
    intro hn
    have e : (fun j : Nat => tot x y ((j : Int) - M) (n + 1)) = fun j : Nat => tot x y ((j : Int) - M) n + pr x y ((j : Int) - M) n := rfl
    rw [e, sumJ_add, ih (by omega), row_sum x y M n (by omega), YS_past y (n + (2 * M + 1) - M) (by omega), YS, Int.add_mul]
end
def ind (l : List Int) : List Int := l.map (fun a => if a = 0 then 0 else 1)
theorem ind_length (l : List Int) : (ind l).length = l.length := List.length_map _
theorem ind_getD (l : List Int) (k : Nat) : (ind l).getD k 0 = if l.getD k 0 = 0 then 0 else 1 := by
  simp only [ind, List.getD_eq_getElem?_getD, List.getElem?_map]
  cases h : l[k]? with
  | none => simp
  | some a => simp
theorem ind_pr (x y : List Int) (d : Int) (k : Nat) : pr (ind x) (ind y) d k = if pr x y d k = 0 then 0 else 1 := by
  unfold pr
  rw [ind_length, ind_getD, ind_getD]
  by_cases h : 0 ≤ (k : Int) + d ∧ (k : Int) + d < y.length
  · rw [if_pos h, if_pos h]
    by_cases h1 : x.getD k 0 = 0
    · rw [if_pos h1, h1]; simp
    · by_cases h2 : y.getD ((k : Int) + d).toNat 0 = 0
      · rw [if_pos h2, h2]; simp
      · have := Int.mul_ne_zero h1 h2
        rw [if_neg h1, if_neg h2, if_neg this]
        rfl
  · rw [if_neg h, if_neg h]; simp
theorem cnt_ind (x y : List Int) (d : Int) : ∀ n, cnt x y d n = tot (ind x) (ind y) d n
  | 0 => rfl
  | n + 1 => by rw [cnt, tot, cnt_ind x y d n, ind_pr]
/-! what a lag has -/
theorem okd_odd {a b : Int} (ha : okd a) (hb : okd b) : a * b = 0 ∨ (a * b) % 2 = 1 := by
  rcases ha with rfl | rfl | rfl | rfl | rfl <;> rcases hb with rfl | rfl | rfl | rfl | rfl <;> decide
theorem lag_ok {x y : List Int} (hx : str x) (hy : str y) (d : Int) (n : Nat) : -9 * cnt x y d n ≤ tot x y d n ∧ tot x y d n ≤ 9 * cnt x y d n ∧ (tot x y d n - cnt x y d n) % 2 = 0 := by
  induction n with
  | zero => simp [tot, cnt]
  | succ n ih =>
    have hb := pr_bound x y d hx hy n
    have ho : pr x y d n = 0 ∨ pr x y d n % 2 = 1 := by
      unfold pr
      split
      · exact okd_odd (str_get hx _) (str_get hy _)
      · exact .inl rfl
    rw [tot, cnt]
    by_cases h : pr x y d n = 0
    · rw [if_pos h, h]; omega
    · rw [if_neg h]; omega
end SM
set_option linter.unusedVariables false
set_option linter.unusedSectionVars false
namespace Go.Proofs.Ytajdbccapandgaa.LG
open Go Go.RowKit Go.Proofs.Ytajdbccapandgaa.PAll Go.Proofs.YtajdbccapandgaaW.PrintWords Go.Proofs.YtajdbccapandgaaW.PrintLast SM

def okE (e : SL) : Prop := 0 ≤ e.f1 ∧ e.f1 ≤ 256 ∧ -9 * e.f1 ≤ e.f0 ∧ e.f0 ≤ 9 * e.f1 ∧ (e.f0 - e.f1) % 2 = 0
theorem lagE_ok {x y : List Int} (hx : str x) (hy : str y) (d : Int) : okE (lagE x y d x.length) := by
  have h1 := lag_ok hx hy d x.length
  have h2 := cnt_bound x y d x.length
  have h3 := hx.1
  unfold okE lagE
  dsimp only
  omega
theorem tmod2 (a : Int) : Int.tmod a 2 = 0 ↔ a % 2 = 0 := by
  have h1 := Int.mul_tdiv_add_tmod a 2
  have h2 := Int.tmod_lt_of_pos a (show (0 : Int) < 2 by decide)
  have h3 := Int.tmod_lt_of_pos (-a) (show (0 : Int) < 2 by decide)
  rw [Int.neg_tmod] at h3
  omega
theorem bad_ok {e : SL} (h : okE e) : lag_bad e = false := by
  unfold okE at h
  unfold lag_bad lag_Check_1.f
  rw [w64 (x := 9 * e.f1) (by omega) (by omega), w64 (x := (-9) * e.f1) (by omega) (by omega), w64 (x := e.f0 - e.f1) (by omega) (by omega)]
  rw [if_neg (by omega), if_neg (by omega), if_neg (by omega), if_neg (by omega)]
  have : Int.tmod (e.f0 - e.f1) 2 = 0 := (tmod2 _).2 h.2.2.2.2
  simp [this]
theorem Check_ok {l : List SL} (h : ∀ e ∈ l, okE e) (h1 : l.length % 2 = 1) (h2 : l.length ≤ 511) : lag_Check.f l = some 0 := by
  unfold lag_Check.f
  rw [if_neg (by omega), if_neg (by omega)]
  have : l.any lag_bad = false := by
    rw [List.any_eq_false]
    intro e he
    rw [bad_ok (h e he)]
    decide
  rw [this]
  rfl
theorem rCheck_loop {l : List SL} (h : ∀ e ∈ l, okE e) (h2 : l.length ≤ 511) : ∀ (m i : Nat), i + m = l.length → Ev (fun k => fringeref16_Check.l0 k l i) 0 := by
  intro m
  induction m with
  | zero =>
    intro i hi
    exact Ev.step (fun k => fringeref16_Check.l0.eq_2 _ _ k) (evn (by omega) (Ev.now _))
  | succ m ih =>
    intro i hi
    have ih := ih (i + 1) (by omega)
    have hlt : i < l.length := by omega
    have he := rdL l i l[i] (List.getElem?_eq_getElem hlt)
    have ho := h _ (List.getElem_mem hlt)
    refine Ev.step (fun k => fringeref16_Check.l0.eq_2 _ _ k) ?_
    rw [he, succ1 (by omega)]
    generalize l[i] = e at *
    unfold okE at ho
    rw [w64 (x := 9 * e.f1) (by omega) (by omega), w64 (x := (-9) * e.f1) (by omega) (by omega)]
    refine evp (by omega) (evp (by omega) (evn (by omega) (evn (by omega) (evn (by omega) (evn (by omega) (Ev.bind (Ev.now _) (Ev.bind (Ev.now _) (evn ?_ ih))))))))
    have hp : (Int.tmod e.f0 2 == 0) = (Int.tmod e.f1 2 == 0) := by
      rw [Bool.eq_iff_iff, beq_iff_eq, beq_iff_eq, tmod2, tmod2]
      omega
    rw [hp]
    simp
theorem rCheck_ok {l : List SL} (h : ∀ e ∈ l, okE e) (h1 : l.length % 2 = 1) (h2 : l.length ≤ 511) : Ev (fun k => fringeref16_Check.f k l) 0 := by
  refine Ev.congr (fun k => fringeref16_Check.f.eq_1 k _) (evn (by omega) (Ev.bind (Ev.now _) (evn ?_ (rCheck_loop h h2 l.length 0 (Nat.zero_add _)))))
  rw [beq_iff_eq, tmod2]
  omega
theorem lagL_ok {x y : List Int} (hx : str x) (hy : str y) (most : Nat) : ∀ n, ∀ e ∈ lagL x y most n, okE e
  | 0, e, h => by simp [lagL] at h
  | n + 1, e, h => by
    rw [lagL, List.mem_append] at h
    rcases h with h | h
    · exact lagL_ok hx hy most n e h
    · rw [List.mem_singleton] at h
      subst h
      exact lagE_ok hx hy _
end Go.Proofs.Ytajdbccapandgaa.LG
/- The lags as the reference sums them, pair by pair, and streams that are cut: for every input. -/
set_option linter.unusedVariables false
set_option linter.unusedSectionVars false
set_option linter.unusedSimpArgs false
namespace Go.Proofs.Ytajdbccapandgaa.LA
open Go Go.RowKit Go.Proofs.Ytajdbccapandgaa.PAll Go.Proofs.YtajdbccapandgaaW.PrintWords Go.Proofs.YtajdbccapandgaaW.PrintLast SM Go.Proofs.Ytajdbccapandgaa.LG

def tl (n : Nat) (f : Nat → SL) : List SL := (List.range n).map f
theorem tl_length (n : Nat) (f : Nat → SL) : (tl n f).length = n := by simp [tl]
theorem tl_congr {n : Nat} {f g : Nat → SL} (h : ∀ j, j < n → f j = g j) : tl n f = tl n g := List.map_congr_left fun j hj => h j (List.mem_range.1 hj)
theorem tl_set {n : Nat} (f : Nat → SL) (i : Nat) (v : SL) : (tl n f).set i v = tl n (fun j => if j = i then v else f j) := by
  refine List.ext_getElem (by simp [tl]) fun j h1 h2 => ?_
  rw [List.getElem_set]
  simp only [tl, List.getElem_map, List.getElem_range]
  by_cases e : j = i
  · rw [if_pos e, if_pos e.symm]
  · rw [if_neg e, if_neg (fun h => e h.symm)]
theorem tl_get {n : Nat} (f : Nat → SL) {j : Nat} (h : j < n) : rd_T39 (tl n f) (j : Int) = f j := rdL _ _ _ (by simp [tl, h])
theorem tl_lag (x y : List Int) (most : Nat) : ∀ n, tl n (fun j => lagE x y ((j : Int) - most) x.length) = lagL x y most n
  | 0 => rfl
  | n + 1 => by
    rw [lagL, ← tl_lag x y most n]
    simp [tl, List.range_succ]
def pk (x y : List Int) (d : Int) (i k : Nat) : Int := if (i : Int) + d < k then pr x y d i else 0
def eR (x y : List Int) (most i k : Nat) (j : Nat) : SL := ⟨tot x y ((j : Int) - most) i + pk x y ((j : Int) - most) i k, cnt x y ((j : Int) - most) i + (if pk x y ((j : Int) - most) i k = 0 then 0 else 1)⟩
theorem eR_zero (x y : List Int) (most i j : Nat) : eR x y most i 0 j = lagE x y ((j : Int) - most) i := by
  have e : pk x y ((j : Int) - most) i 0 = 0 := by
    unfold pk pr
    split
    · rw [if_neg (by omega)]
    · rfl
  unfold eR lagE
  rw [e, if_pos rfl, Int.add_zero, Int.add_zero]
theorem eR_full (x y : List Int) (most i j : Nat) : eR x y most i y.length j = lagE x y ((j : Int) - most) (i + 1) := by
  have e : pk x y ((j : Int) - most) i y.length = pr x y ((j : Int) - most) i := by
    unfold pk
    split
    · rfl
    · unfold pr
      rw [if_neg (by omega)]
  unfold eR lagE
  rw [e, tot, cnt]
theorem okd_mul_ne {a b : Int} (ha : okd a) (hb : okd b) : a * b = 0 → a = 0 ∨ b = 0 := fun h => Int.mul_eq_zero.1 h
section
variable {x y : List Int} {most : Nat} (hx : str x) (hy : str y) (hm : most ≤ 255)
include hx hy hm
theorem rlag_row {i : Nat} (hi : i < x.length) {res : List SL × Int} (h : Ev (fun k => fringeref16_Of.l0 k x y most (tl (2 * most + 1) (fun j => lagE x y ((j : Int) - most) (i + 1))) ((i + 1 : Nat) : Int)) res) :
    ∀ (m k : Nat), k + m = y.length → Ev (fun f => fringeref16_Of.l1 f x y most (tl (2 * most + 1) (eR x y most i k)) i k) res := by
  have hl1 := hx.1
  have hl2 := hy.1
  intro m
  induction m with
  | zero =>
    intro k hk
    have : k = y.length := by omega
    subst this
    refine Ev.step (fun f => fringeref16_Of.l1.eq_2 _ _ _ _ _ _ f) (evn (by omega) ?_)
    rw [succ1 (by omega), tl_congr (fun j _ => eR_full x y most i j)]
    exact h
  | succ m ih =>
    intro k hk
    have ih := ih (k + 1) (by omega)
    refine Ev.step (fun f => fringeref16_Of.l1.eq_2 _ _ _ _ _ _ f) (evp (by omega) ?_)
    rw [w64 (x := (k : Int) - i) (by omega) (by omega), w64 (x := -(most : Int)) (by omega) (by omega), succ1 (i := k) (by omega), rdD, rdD]
    have hxi := str_get hx i
    have hyk := str_get hy k
    have same : (∀ j, j < 2 * most + 1 → pk x y ((j : Int) - most) i (k + 1) = pk x y ((j : Int) - most) i k) → Ev (fun f => fringeref16_Of.l1 f x y most (tl (2 * most + 1) (eR x y most i k)) i ((k + 1 : Nat) : Int)) res := fun hh => by
      rw [tl_congr (g := eR x y most i (k + 1)) (fun j hj => by unfold eR; rw [hh j hj])]
      exact ih
    have other : ∀ j : Nat, (i : Int) + ((j : Int) - most) ≠ k → pk x y ((j : Int) - most) i (k + 1) = pk x y ((j : Int) - most) i k := fun j hj => by
      unfold pk
      by_cases c : (i : Int) + ((j : Int) - most) < k
      · rw [if_pos c, if_pos (by omega)]
      · rw [if_neg c, if_neg (by omega)]
    have at_ : ∀ j : Nat, (i : Int) + ((j : Int) - most) = k → pk x y ((j : Int) - most) i (k + 1) = x.getD i 0 * y.getD k 0 ∧ pk x y ((j : Int) - most) i k = 0 := fun j hj => by
      unfold pk pr
      rw [if_pos (by omega), if_pos (by omega), if_neg (by omega), show ((i : Int) + ((j : Int) - most)).toNat = k by omega]
      exact ⟨rfl, rfl⟩
    by_cases c1 : (k : Int) - i < -(most : Int)
    · exact evp c1 (same fun j hj => other j (by omega))
    by_cases c2 : (k : Int) - i > most
    · exact evn c1 (evp c2 (same fun j hj => other j (by omega)))
    refine evn c1 (evn c2 (evp (by omega) (evp (by omega) ?_)))
    obtain ⟨j0, hj0⟩ := Int.eq_ofNat_of_zero_le (show 0 ≤ (k : Int) - i + most by omega)
    have zero : x.getD i 0 * y.getD k 0 = 0 → ∀ j, j < 2 * most + 1 → pk x y ((j : Int) - most) i (k + 1) = pk x y ((j : Int) - most) i k := fun hz j hj => by
      by_cases e : (i : Int) + ((j : Int) - most) = k
      · rw [(at_ j e).1, (at_ j e).2, hz]
      · exact other j e
    by_cases c3 : x.getD i 0 = 0
    · exact evp c3 (same (zero (by rw [c3, Int.zero_mul])))
    refine evn c3 (evp (by omega) ?_)
    by_cases c4 : y.getD k 0 = 0
    · exact evp c4 (same (zero (by rw [c4, Int.mul_zero])))
    have hp := okd_mul hxi hyk
    have hne : x.getD i 0 * y.getD k 0 ≠ 0 := fun h => by
      rcases Int.mul_eq_zero.1 h with h | h
      · exact c3 h
      · exact c4 h
    have hj : (i : Int) + ((j0 : Int) - most) = k := by omega
    obtain ⟨a1, a2⟩ := at_ j0 hj
    have hj0lt : j0 < 2 * most + 1 := by omega
    have hb1 := tot_bound x y ((j0 : Int) - most) hx hy i
    have hb2 := cnt_bound (x) y ((j0 : Int) - most) i
    refine evn c4 ?_
    rw [w64 (x := (k : Int) - i + most) (by omega) (by omega), hj0, tl_length, tl_get _ hj0lt, Int.toNat_natCast]
    have e0 : eR x y most i k j0 = ⟨tot x y ((j0 : Int) - most) i, cnt x y ((j0 : Int) - most) i⟩ := by
      unfold eR
      rw [a2, if_pos rfl, Int.add_zero, Int.add_zero]
    rw [e0]
    dsimp only
    rw [w64 (x := x.getD i 0 * y.getD k 0) (by omega) (by omega), w64 (x := tot x y ((j0 : Int) - most) i + x.getD i 0 * y.getD k 0) (by omega) (by omega), w64 (x := cnt x y ((j0 : Int) - most) i + 1) (by omega) (by omega)]
    refine evp (by omega) (evp (by omega) (Ev.bind (Ev.now _) ?_))
    rw [tl_set, tl_get _ hj0lt, if_pos rfl]
    dsimp only
    rw [tl_set]
    rw [tl_congr (g := eR x y most i (k + 1)) (fun j hjl => by
      by_cases e : j = j0
      · subst e
        rw [if_pos rfl]
        unfold eR
        rw [a1, if_neg hne]
      · rw [if_neg e, if_neg e]
        unfold eR
        rw [other j (by omega)])]
    exact ih
theorem rlag_loop : ∀ (m i : Nat), i + m = x.length → Ev (fun k => fringeref16_Of.l0 k x y most (tl (2 * most + 1) (fun j => lagE x y ((j : Int) - most) i)) i) (lagL x y most (2 * most + 1), 0) := by
  intro m
  induction m with
  | zero =>
    intro i hi
    have : i = x.length := by omega
    subst this
    refine Ev.step (fun k => fringeref16_Of.l0.eq_2 _ _ _ _ _ k) (evn (by omega) ?_)
    rw [tl_lag]
    exact Ev.now _
  | succ m ih =>
    intro i hi
    refine Ev.step (fun k => fringeref16_Of.l0.eq_2 _ _ _ _ _ k) (evp (by omega) ?_)
    have h := rlag_row hx hy hm (show i < x.length by omega) (ih (i + 1) (by omega)) y.length 0 (Nat.zero_add _)
    rw [tl_congr (fun j _ => eR_zero x y most i j)] at h
    exact h
theorem rlag_ev : Ev (fun k => fringeref16_Of.f k x y most) (lagL x y most (2 * most + 1), 0) := by
  have hc1 : Ev (fun k => fringeref13_Check.f k x) 0 := str_chk hx ▸ refCheck_ev x
  have hc2 : Ev (fun k => fringeref13_Check.f k y) 0 := str_chk hy ▸ refCheck_ev y
  refine Ev.congr (fun k => fringeref16_Of.f.eq_1 k _ _ _) (Ev.bind hc1 (evp rfl (Ev.bind hc2 (evp rfl (evn (by omega) ?_)))))
  rw [decide_eq_false (by omega)]
  have e : wrap64 (wrap64 (2 * (most : Int)) + 1) = ((2 * most + 1 : Nat) : Int) := by
    rw [w64 (x := 2 * (most : Int)) (by omega) (by omega), w64 (by omega) (by omega)]
    omega
  refine Ev.step (fun k => fringeref16_Of.j0.eq_2 _ _ _ _ k) (evn (by decide) ?_)
  rw [e]
  refine evp (by omega) (evp (by omega) ?_)
  rw [Int.toNat_natCast]
  have h := rlag_loop hx hy hm x.length 0 (Nat.zero_add _)
  have e2 : List.replicate (2 * most + 1) z39 = tl (2 * most + 1) (fun j => lagE x y ((j : Int) - most) 0) := by
    refine List.ext_getElem (by simp [tl]) fun j h1 h2 => ?_
    simp [tl]
    rfl
  rw [e2]
  exact h
end
theorem lag_all (x y : List Int) (m : Int) : ∃ l e, Ev (fun k => lag_Of.f k x y m) (l, e) ∧ Ev (fun k => fringeref16_Of.f k x y m) (l, e) ∧ l.length ≤ 600 := by
  have h1 : ∀ k, lag_Of.f k x y m = _ := fun k => lag_Of.f.eq_1 k _ _ _
  have h2 : ∀ k, fringeref16_Of.f k x y m = _ := fun k => fringeref16_Of.f.eq_1 k _ _ _
  have kx : ∀ {l : List Int} {g : Int → Nat → Option (List SL × Int)} {res}, Ev (g (chk l)) res → Ev (fun k => (sample_Check.f l).bind fun t => g t k) res := fun h => by rw [sample_Check_eq]; exact Ev.bind (Ev.now _) h
  have j1 : Ev (fun k => lag_Of.j0 k x y m true) ([], 2) := Ev.step (fun k => lag_Of.j0.eq_2 _ _ _ _ k) (evp rfl (Ev.now _))
  have j2 : Ev (fun k => fringeref16_Of.j0 k x y m true) ([], 2) := Ev.step (fun k => fringeref16_Of.j0.eq_2 _ _ _ _ k) (evp rfl (Ev.now _))
  by_cases c0 : chk x = 0
  · by_cases c1 : chk y = 0
    · by_cases c2 : m < 0
      · exact ⟨[], 2, Ev.congr h1 (kx (evp c0 (kx (evp c1 (evp c2 j1))))), Ev.congr h2 (Ev.bind (refCheck_ev x) (evp c0 (Ev.bind (refCheck_ev y) (evp c1 (evp c2 j2))))), by simp⟩
      by_cases c3 : m > 255
      · refine ⟨[], 2, Ev.congr h1 (kx (evp c0 (kx (evp c1 (evn c2 ?_))))), Ev.congr h2 (Ev.bind (refCheck_ev x) (evp c0 (Ev.bind (refCheck_ev y) (evp c1 (evn c2 ?_))))), by simp⟩
        · rw [decide_eq_true c3]; exact j1
        · rw [decide_eq_true c3]; exact j2
      obtain ⟨n, rfl⟩ := Int.eq_ofNat_of_zero_le (show 0 ≤ m by omega)
      exact ⟨_, _, lag_ev (chk_str c0) (chk_str c1) (by omega), rlag_ev (chk_str c0) (chk_str c1) (by omega), by rw [lagL_length]; omega⟩
    · exact ⟨[], chk y, Ev.congr h1 (kx (evp c0 (kx (evn c1 (Ev.now _))))), Ev.congr h2 (Ev.bind (refCheck_ev x) (evp c0 (Ev.bind (refCheck_ev y) (evn c1 (Ev.bind (refCheck_ev y) (Ev.now _)))))), by simp⟩
  · exact ⟨[], chk x, Ev.congr h1 (kx (evn c0 (Ev.now _))), Ev.congr h2 (Ev.bind (refCheck_ev x) (evn c0 (Ev.bind (refCheck_ev x) (Ev.now _)))), by simp⟩
/-! cuts -/
def cutA (x : List Int) (n : Nat) : List Int := x.take n ++ List.replicate (x.length - n) 0
def cutB (x : List Int) (n : Nat) : List Int := List.replicate n 0 ++ x.drop n
theorem cutA_length {x : List Int} {n : Nat} (h : n ≤ x.length) : (cutA x n).length = x.length := by simp [cutA]; omega
theorem cutB_length {x : List Int} {n : Nat} (h : n ≤ x.length) : (cutB x n).length = x.length := by simp [cutB]; omega
theorem cutA_get {x : List Int} {n : Nat} (h : n ≤ x.length) (k : Nat) : (cutA x n).getD k 0 = if k < n then x.getD k 0 else 0 := by
  unfold cutA
  simp only [List.getD_eq_getElem?_getD]
  by_cases c : k < n
  · rw [if_pos c, List.getElem?_append_left (by rw [List.length_take]; omega), List.getElem?_take_of_lt c]
  · rw [if_neg c, List.getElem?_append_right (by rw [List.length_take]; omega), List.length_take, List.getElem?_replicate]
    split <;> rfl
theorem cutB_get {x : List Int} {n : Nat} (h : n ≤ x.length) (k : Nat) : (cutB x n).getD k 0 = if k < n then 0 else x.getD k 0 := by
  unfold cutB
  simp only [List.getD_eq_getElem?_getD]
  by_cases c : k < n
  · rw [if_pos c, List.getElem?_append_left (by rw [List.length_replicate]; omega), List.getElem?_replicate, if_pos c]; rfl
  · rw [if_neg c, List.getElem?_append_right (by rw [List.length_replicate]; omega), List.length_replicate, List.getElem?_drop, show n + (k - n) = k by omega]
theorem cut_ev {x : List Int} (hx : str x) {n : Nat} (h : n ≤ x.length) : lag_Cut.f x n = some (cutA x n, cutB x n, 0) := by
  have hl := hx.1
  unfold lag_Cut.f
  rw [sample_Check_eq, str_chk hx, Option.bind_some, if_pos rfl, if_neg (by omega), if_neg (by omega), if_pos (by omega), if_pos (by omega), Int.toNat_natCast]
  rfl
theorem rcut_ev {x : List Int} (hx : str x) {n : Nat} (h : n ≤ x.length) : Ev (fun k => fringeref16_Cut.f k x n) (cutA x n, cutB x n, 0) := by
  have hl := hx.1
  have hc : Ev (fun k => fringeref13_Check.f k x) 0 := str_chk hx ▸ refCheck_ev x
  refine Ev.congr (fun k => fringeref16_Cut.f.eq_1 k _ _) (Ev.bind hc (evp rfl (evn (by omega) ?_)))
  rw [decide_eq_false (by omega)]
  refine Ev.step (fun k => fringeref16_Cut.j0.eq_2 _ _ _ k) (evn (by decide) ?_)
  have key : ∀ (m i : Nat), i + m = x.length → Ev (fun k => fringeref16_Cut.l0 k x n ((cutA x n).take i) ((cutB x n).take i) i) (cutA x n, cutB x n, 0) := by
    intro m
    induction m with
    | zero =>
      intro i hi
      have : i = x.length := by omega
      subst this
      refine Ev.step (fun k => fringeref16_Cut.l0.eq_2 _ _ _ _ _ k) (evn (by omega) ?_)
      rw [List.take_of_length_le (by rw [cutA_length h]; exact Nat.le_refl _), List.take_of_length_le (by rw [cutB_length h]; exact Nat.le_refl _)]
      exact Ev.now _
    | succ m ih =>
      intro i hi
      have ih := ih (i + 1) (by omega)
      have ta : (cutA x n).take (i + 1) = (cutA x n).take i ++ [(cutA x n).getD i 0] := by
        rw [List.take_add_one, List.getD_eq_getElem?_getD, List.getElem?_eq_getElem (by rw [cutA_length h]; omega)]; rfl
      have tb : (cutB x n).take (i + 1) = (cutB x n).take i ++ [(cutB x n).getD i 0] := by
        rw [List.take_add_one, List.getD_eq_getElem?_getD, List.getElem?_eq_getElem (by rw [cutB_length h]; omega)]; rfl
      have la : ((cutA x n).take i).length = i := by rw [List.length_take, cutA_length h]; omega
      have lb : ((cutB x n).take i).length = i := by rw [List.length_take, cutB_length h]; omega
      rw [ta, tb, cutA_get h, cutB_get h] at ih
      refine Ev.step (fun k => fringeref16_Cut.l0.eq_2 _ _ _ _ _ k) (evp (by omega) ?_)
      rw [rdD, succ1 (by omega)]
      by_cases c : i < n
      · rw [if_pos c, if_pos c] at ih
        refine evp (by omega) (evp (by omega) (Ev.bind (Ev.now _) (evp (by rw [la]; simp; omega) (Ev.bind (Ev.now _) (evp (by rw [lb]; simp; omega) ih)))))
      · rw [if_neg c, if_neg c] at ih
        refine evn (by omega) (Ev.bind (Ev.now _) (evp (by rw [la]; simp; omega) (evp (by omega) (Ev.bind (Ev.now _) (evp (by rw [lb]; simp; omega) ih)))))
  exact key x.length 0 (Nat.zero_add _)
theorem cut_all {x : List Int} (hl : x.length ≤ 300) (a : Int) : ∃ p q e, lag_Cut.f x a = some (p, q, e) ∧ Ev (fun k => fringeref16_Cut.f k x a) (p, q, e) ∧ p.length ≤ 300 ∧ q.length ≤ 300 := by
  have h2 : ∀ k, fringeref16_Cut.f k x a = _ := fun k => fringeref16_Cut.f.eq_1 k _ _
  have j2 : Ev (fun k => fringeref16_Cut.j0 k x a true) ([], [], 2) := Ev.step (fun k => fringeref16_Cut.j0.eq_2 _ _ _ k) (evp rfl (Ev.now _))
  by_cases c0 : chk x = 0
  · have hc : Ev (fun k => fringeref13_Check.f k x) 0 := c0 ▸ refCheck_ev x
    by_cases c1 : a < 0
    · exact ⟨[], [], 2, by unfold lag_Cut.f; rw [sample_Check_eq, c0, Option.bind_some, if_pos rfl, if_pos c1], Ev.congr h2 (Ev.bind hc (evp rfl (evp c1 j2))), by simp, by simp⟩
    by_cases c2 : a > x.length
    · refine ⟨[], [], 2, by unfold lag_Cut.f; rw [sample_Check_eq, c0, Option.bind_some, if_pos rfl, if_neg c1, if_pos c2], Ev.congr h2 (Ev.bind hc (evp rfl (evn c1 ?_))), by simp, by simp⟩
      rw [decide_eq_true c2]; exact j2
    obtain ⟨n, rfl⟩ := Int.eq_ofNat_of_zero_le (show 0 ≤ a by omega)
    have hn : n ≤ x.length := by omega
    exact ⟨_, _, _, cut_ev (chk_str c0) hn, rcut_ev (chk_str c0) hn, by rw [cutA_length hn]; exact hl, by rw [cutB_length hn]; exact hl⟩
  · refine ⟨[], [], chk x, by unfold lag_Cut.f; rw [sample_Check_eq, Option.bind_some, if_neg c0], Ev.congr h2 (Ev.bind (refCheck_ev x) (evn c0 (Ev.bind (refCheck_ev x) (Ev.now _)))), by simp, by simp⟩
theorem sameL_loop (l : List SL) (hl : l.length ≤ 1000) : ∀ (m i : Nat), i + m = l.length → Ev (fun k => fringeref16_Same.l0 k l l i) true := by
  intro m
  induction m with
  | zero =>
    intro i hi
    exact Ev.step (fun k => fringeref16_Same.l0.eq_2 _ _ _ k) (evn (by omega) (Ev.now _))
  | succ m ih =>
    intro i hi
    refine Ev.step (fun k => fringeref16_Same.l0.eq_2 _ _ _ k) (evp (by omega) (evp (by omega) (evp (by omega) (evn (by simp) ?_))))
    rw [succ1 (by omega)]
    exact ih (i + 1) (by omega)
theorem sameL_ev {l : List SL} (h : l.length ≤ 1000) : Ev (fun k => fringeref16_Same.f k l l) true :=
  Ev.congr (fun k => fringeref16_Same.f.eq_1 k _ _) (evp rfl (sameL_loop l h l.length 0 (Nat.zero_add _)))
theorem same13_loop (l : List Int) (hl : l.length ≤ 1000) : ∀ (m i : Nat), i + m = l.length → Ev (fun k => fringeref13_Same.l0 k l l i) true := by
  intro m
  induction m with
  | zero =>
    intro i hi
    exact Ev.step (fun k => fringeref13_Same.l0.eq_2 _ _ _ k) (evn (by omega) (Ev.now _))
  | succ m ih =>
    intro i hi
    refine Ev.step (fun k => fringeref13_Same.l0.eq_2 _ _ _ k) (evp (by omega) (evp (by omega) (evp (by omega) (evp rfl ?_))))
    rw [succ1 (by omega)]
    exact ih (i + 1) (by omega)
theorem same13_ev {l : List Int} (h : l.length ≤ 1000) : Ev (fun k => fringeref13_Same.f k l l) true :=
  Ev.congr (fun k => fringeref13_Same.f.eq_1 k _ _) (evp rfl (same13_loop l h l.length 0 (Nat.zero_add _)))
end Go.Proofs.Ytajdbccapandgaa.LA
