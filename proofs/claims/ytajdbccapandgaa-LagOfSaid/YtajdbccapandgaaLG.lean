import Derived.Test.YtajdbccapandgaaLM
import Derived.Test.YtajdbccapandgaaPAllx6
set_option linter.unusedVariables false
set_option linter.unusedSectionVars false
set_option linter.unusedSimpArgs false
namespace Go.Proofs.Ytajdbccapandgaa.LG
open Go Go.RowKit Go.Proofs.Ytajdbccapandgaa.PAll Go.Proofs.YtajdbccapandgaaW.PrintWords Go.Proofs.YtajdbccapandgaaW.PrintLast SM

theorem evp {α : Type} {c : Prop} [Decidable c] {g f : Nat → Option α} {r : α} (h : c) (e : Ev g r) : Ev (fun k => if c then g k else f k) r := Ev.congr (fun k => if_pos h) e
theorem evn {α : Type} {c : Prop} [Decidable c] {g f : Nat → Option α} {r : α} (h : ¬ c) (e : Ev f r) : Ev (fun k => if c then g k else f k) r := Ev.congr (fun k => if_neg h) e
theorem w64 {x : Int} (h0 : -9223372036854775808 ≤ x) (h1 : x ≤ 9223372036854775807) : wrap64 x = x := by unfold wrap64; omega
theorem succ1 {i : Nat} (hi : i ≤ 4000000000) : wrap64 ((i : Int) + 1) = ((i + 1 : Nat) : Int) := by
  rw [w64 (by omega) (by omega)]; rfl
theorem rdD (l : List Int) (k : Nat) : rd l (k : Int) = l.getD k 0 := by simp [rd]
def chk (l : List Int) : Int := if (l.length : Int) > 256 then 4 else if l.all sample_okd then 0 else 8
theorem okd_iff (x : Int) : sample_okd x = true ↔ okd x := by
  unfold sample_okd okd
  simp [or_assoc]
theorem chk_str {l : List Int} (h : chk l = 0) : str l := by
  unfold chk at h
  split at h
  · omega
  · rename_i h1
    split at h
    · rename_i h2
      exact ⟨by omega, fun x hx => (okd_iff x).1 (List.all_eq_true.1 h2 x hx)⟩
    · omega
theorem str_chk {l : List Int} (h : str l) : chk l = 0 := by
  unfold chk
  have := h.1
  rw [if_neg (by omega), if_pos (List.all_eq_true.2 fun x hx => (okd_iff x).2 (h.2 x hx))]
theorem sample_Check_eq (l : List Int) : sample_Check.f l = some (chk l) := rfl
abbrev SL := S39
def lagE (x y : List Int) (d : Int) (n : Nat) : SL := ⟨tot x y d n, cnt x y d n⟩
def lagL (x y : List Int) (most : Nat) : Nat → List SL
  | 0 => []
  | j + 1 => lagL x y most j ++ [lagE x y ((j : Int) - most) x.length]
theorem lagL_length (x y : List Int) (most : Nat) : ∀ n, (lagL x y most n).length = n
  | 0 => rfl
  | n + 1 => by rw [lagL, List.length_append, lagL_length x y most n]; rfl
theorem lagL_get (x y : List Int) (most i : Nat) : ∀ n, i < n → (lagL x y most n)[i]? = some (lagE x y ((i : Int) - most) x.length)
  | 0, h => by omega
  | n + 1, h => by
    rw [lagL]
    by_cases hi : i < n
    · rw [List.getElem?_append_left (by rw [lagL_length]; exact hi)]
      exact lagL_get x y most i n hi
    · have e : i = n := by omega
      subst e
      rw [List.getElem?_append_right (by rw [lagL_length]; omega), lagL_length]
      simp
theorem rdL (l : List SL) (i : Nat) (e : SL) (h : l[i]? = some e) : rd_T39 l (i : Int) = e := by
  simp [rd_T39, List.getD_eq_getElem?_getD, h]
theorem set_mid {α : Type} (P : List α) (e e' : α) (R : List α) : (P ++ e :: R).set P.length e' = P ++ e' :: R := by simp [List.set_append_right]
theorem get_mid {α : Type} (P : List α) (e : α) (R : List α) : (P ++ e :: R)[P.length]? = some e := by simp
section
variable {x y : List Int} {d : Int} (hx : str x) (hy : str y) (hd : -1000 ≤ d ∧ d ≤ 1000)
include hx hy hd
theorem prod_eq (k : Nat) (h : 0 ≤ (k : Int) + d ∧ (k : Int) + d < y.length) : wrap64 (rd x k * rd y ((k : Int) + d)) = pr x y d k := by
  have hb := pr_bound x y d hx hy k
  unfold pr at hb ⊢
  rw [if_pos h] at hb ⊢
  rw [rdD]
  unfold rd
  exact w64 (by omega) (by omega)
theorem lag_row {a2 x36 : Int} {P R : List SL} {res : List SL × Int} (h : Ev (fun k => lag_Of.l0 k x y a2 (P ++ lagE x y d x.length :: R) x36 (wrap64 ((P.length : Int) + 1))) res) : ∀ (m i : Nat), i + m = x.length →
    Ev (fun k => lag_Of.l1 k x y a2 (P ++ lagE x y d i :: R) (P.length : Int) d x36 (P.length : Int) (x.length : Int) i) res := by
  intro m
  have hl := hx.1
  have hly := hy.1
  induction m with
  | zero =>
    intro i hi
    have : i = x.length := by omega
    subst this
    exact Ev.step (fun k => lag_Of.l1.eq_2 _ _ _ _ _ _ _ _ _ _ k) (evn (by omega) h)
  | succ m ih =>
    intro i hi
    have ih := ih (i + 1) (by omega)
    have hb := pr_bound x y d hx hy i
    have ht := tot_bound x y d hx hy i
    have hc := cnt_bound x y d i
    have e0 : wrap64 ((i : Int) + d) = (i : Int) + d := w64 (by omega) (by omega)
    refine Ev.step (fun k => lag_Of.l1.eq_2 _ _ _ _ _ _ _ _ _ _ k) (evp (by omega) ?_)
    rw [e0]
    by_cases hcc : 0 ≤ (i : Int) + d ∧ (i : Int) + d < y.length
    · have hp := prod_eq hx hy hd i hcc
      refine evn (by omega) ?_
      rw [decide_eq_false (by omega)]
      refine Ev.step (fun k => lag_Of.j3.eq_2 _ _ _ _ _ _ _ _ _ _ _ _ k) (evn (by decide) ?_)
      rw [e0, hp, succ1 (by omega)]
      refine evp (by omega) (evp (by omega) (evp (by omega) (evp (by omega) ?_)))
      by_cases hz : pr x y d i = 0
      · have e : lagE x y d (i + 1) = lagE x y d i := by
          unfold lagE
          rw [tot, cnt, if_pos hz, hz]
          simp
        rw [e] at ih
        exact evp hz ih
      · refine evn hz (evp (by omega) (evp (by simp; omega) (Ev.bind (Ev.now _) ?_)))
        rw [rdL _ _ _ (get_mid P (lagE x y d i) R), Int.toNat_natCast, set_mid, rdL _ _ _ (get_mid P _ R), set_mid]
        have e : lagE x y d (i + 1) = ⟨wrap64 ((lagE x y d i).f0 + pr x y d i), wrap64 ((lagE x y d i).f1 + 1)⟩ := by
          unfold lagE
          dsimp only
          rw [tot, cnt, if_neg hz, w64 (by omega) (by omega), w64 (by omega) (by omega)]
        rw [e] at ih
        exact ih
    · have ep : pr x y d i = 0 := if_neg hcc
      have e : lagE x y d (i + 1) = lagE x y d i := by
        unfold lagE
        rw [tot, cnt, if_pos ep, ep]
        simp
      rw [e] at ih
      by_cases hneg : (i : Int) + d < 0
      · refine evp hneg ?_
        refine Ev.step (fun k => lag_Of.j3.eq_2 _ _ _ _ _ _ _ _ _ _ _ _ k) (evp rfl ?_)
        rw [succ1 (by omega)]
        exact ih
      · refine evn hneg ?_
        rw [decide_eq_true (show (i : Int) + d ≥ y.length by omega)]
        refine Ev.step (fun k => lag_Of.j3.eq_2 _ _ _ _ _ _ _ _ _ _ _ _ k) (evp rfl ?_)
        rw [succ1 (by omega)]
        exact ih
end
theorem lag_loop {x y : List Int} (hx : str x) (hy : str y) {most : Nat} (hm : most ≤ 255) : ∀ (m j : Nat), j + m = 2 * most + 1 →
    Ev (fun k => lag_Of.l0 k x y most (lagL x y most j ++ List.replicate m z39) ((2 * most + 1 : Nat) : Int) j) (lagL x y most (2 * most + 1), 0) := by
  intro m
  induction m with
  | zero =>
    intro j hj
    have : j = 2 * most + 1 := by omega
    subst this
    refine Ev.step (fun k => lag_Of.l0.eq_2 _ _ _ _ _ _ k) (evn (by omega) ?_)
    rw [List.replicate_zero, List.append_nil]
    exact Ev.now _
  | succ m ih =>
    intro j hj
    have ih := ih (j + 1) (by omega)
    rw [lagL, List.append_assoc] at ih
    refine Ev.step (fun k => lag_Of.l0.eq_2 _ _ _ _ _ _ k) (evp (by omega) ?_)
    rw [w64 (x := (j : Int) - most) (by omega) (by omega)]
    have h := lag_row (d := (j : Int) - most) (a2 := most) (x36 := ((2 * most + 1 : Nat) : Int)) (P := lagL x y most j) (R := List.replicate m z39) (res := (lagL x y most (2 * most + 1), 0)) hx hy (by omega) (by
      rw [lagL_length, succ1 (by omega)]
      exact ih) x.length 0 (Nat.zero_add _)
    rw [lagL_length] at h
    exact h
theorem lag_ev {x y : List Int} (hx : str x) (hy : str y) {most : Nat} (hm : most ≤ 255) : Ev (fun k => lag_Of.f k x y most) (lagL x y most (2 * most + 1), 0) := by
  refine Ev.congr (fun k => lag_Of.f.eq_1 k _ _ _) ?_
  rw [sample_Check_eq, sample_Check_eq, str_chk hx, str_chk hy]
  refine Ev.bind (Ev.now _) (evp rfl (Ev.bind (Ev.now _) (evp rfl (evn (by omega) ?_))))
  rw [decide_eq_false (by omega)]
  have e : wrap64 (wrap64 (2 * (most : Int)) + 1) = ((2 * most + 1 : Nat) : Int) := by
    rw [w64 (x := 2 * (most : Int)) (by omega) (by omega), w64 (by omega) (by omega)]
    omega
  refine Ev.step (fun k => lag_Of.j0.eq_2 _ _ _ _ k) (evn (by decide) ?_)
  rw [e]
  refine evp (by omega) (evp (by omega) (Ev.bind (Ev.now _) ?_))
  rw [List.length_replicate, Int.toNat_natCast]
  exact lag_loop hx hy hm _ 0 (Nat.zero_add _)
end Go.Proofs.Ytajdbccapandgaa.LG
