/- The lags as the reference sums them, pair by pair, and streams that are cut: for every input. -/
import Derived.Test.YtajdbccapandgaaLO
import Derived.Test.YtajdbccapandgaaPAllx9
import Derived.Test.YtajdbccapandgaaPAllx11
import Derived.Test.YtajdbccapandgaaPAllx10
import Derived.Test.YtajdbccapandgaaPAllx12
import Derived.Test.YtajdbccapandgaaPAllx13
set_option linter.unusedVariables false
set_option linter.unusedSectionVars false
set_option linter.unusedSimpArgs false
namespace Go.Proofs.Ytajdbccapandgaa.LA
open Go Go.RowKit Go.Proofs.Ytajdbccapandgaa.PAll Go.Proofs.YtajdbccapandgaaW.PrintWords Go.Proofs.YtajdbccapandgaaW.PrintLast SM Go.Proofs.Ytajdbccapandgaa.LG

def tl (n : Nat) (f : Nat → SL) : List SL := (List.range n).map f
theorem tl_length (n : Nat) (f : Nat → SL) : (tl n f).length = n := by simp [tl]
theorem tl_congr {n : Nat} {f g : Nat → SL} (h : ∀ j, j < n → f j = g j) : tl n f = tl n g := List.map_congr_left fun j hj => h j (List.mem_range.1 hj)
theorem tl_set {n : Nat} (f : Nat → SL) (i : Nat) (v : SL) : (tl n f).set i v = tl n (fun j => if j = i then v else f j) := by
  refine List.ext_getElem (by simp [tl]) fun j h1 h2 => ?_
  rw [List.getElem_set]
  simp only [tl, List.getElem_map, List.getElem_range]
  by_cases e : j = i
  · rw [if_pos e, if_pos e.symm]
  · rw [if_neg e, if_neg (fun h => e h.symm)]
theorem tl_get {n : Nat} (f : Nat → SL) {j : Nat} (h : j < n) : rd_T39 (tl n f) (j : Int) = f j := rdL _ _ _ (by simp [tl, h])
theorem tl_lag (x y : List Int) (most : Nat) : ∀ n, tl n (fun j => lagE x y ((j : Int) - most) x.length) = lagL x y most n
  | 0 => rfl
  | n + 1 => by
    rw [lagL, ← tl_lag x y most n]
    simp [tl, List.range_succ]
def pk (x y : List Int) (d : Int) (i k : Nat) : Int := if (i : Int) + d < k then pr x y d i else 0
def eR (x y : List Int) (most i k : Nat) (j : Nat) : SL := ⟨tot x y ((j : Int) - most) i + pk x y ((j : Int) - most) i k, cnt x y ((j : Int) - most) i + (if pk x y ((j : Int) - most) i k = 0 then 0 else 1)⟩
theorem eR_zero (x y : List Int) (most i j : Nat) : eR x y most i 0 j = lagE x y ((j : Int) - most) i := by
  have e : pk x y ((j : Int) - most) i 0 = 0 := by
    unfold pk pr
    split
    · rw [if_neg (by omega)]
    · rfl
  unfold eR lagE
  rw [e, if_pos rfl, Int.add_zero, Int.add_zero]
theorem eR_full (x y : List Int) (most i j : Nat) : eR x y most i y.length j = lagE x y ((j : Int) - most) (i + 1) := by
  have e : pk x y ((j : Int) - most) i y.length = pr x y ((j : Int) - most) i := by
    unfold pk
    split
    · rfl
    · unfold pr
      rw [if_neg (by omega)]
  unfold eR lagE
  rw [e, tot, cnt]
theorem okd_mul_ne {a b : Int} (ha : okd a) (hb : okd b) : a * b = 0 → a = 0 ∨ b = 0 := fun h => Int.mul_eq_zero.1 h
section
variable {x y : List Int} {most : Nat} (hx : str x) (hy : str y) (hm : most ≤ 255)
include hx hy hm
theorem rlag_row {i : Nat} (hi : i < x.length) {res : List SL × Int} (h : Ev (fun k => fringeref16_Of.l0 k x y most (tl (2 * most + 1) (fun j => lagE x y ((j : Int) - most) (i + 1))) ((i + 1 : Nat) : Int)) res) :
    ∀ (m k : Nat), k + m = y.length → Ev (fun f => fringeref16_Of.l1 f x y most (tl (2 * most + 1) (eR x y most i k)) i k) res := by
  have hl1 := hx.1
  have hl2 := hy.1
  intro m
  induction m with
  | zero =>
    intro k hk
    have : k = y.length := by omega
    subst this
    refine Ev.step (fun f => fringeref16_Of.l1.eq_2 _ _ _ _ _ _ f) (evn (by omega) ?_)
    rw [succ1 (by omega), tl_congr (fun j _ => eR_full x y most i j)]
    exact h
  | succ m ih =>
    intro k hk
    have ih := ih (k + 1) (by omega)
    refine Ev.step (fun f => fringeref16_Of.l1.eq_2 _ _ _ _ _ _ f) (evp (by omega) ?_)
    rw [w64 (x := (k : Int) - i) (by omega) (by omega), w64 (x := -(most : Int)) (by omega) (by omega), succ1 (i := k) (by omega), rdD, rdD]
    have hxi := str_get hx i
    have hyk := str_get hy k
    have same : (∀ j, j < 2 * most + 1 → pk x y ((j : Int) - most) i (k + 1) = pk x y ((j : Int) - most) i k) → Ev (fun f => fringeref16_Of.l1 f x y most (tl (2 * most + 1) (eR x y most i k)) i ((k + 1 : Nat) : Int)) res := fun hh => by
      rw [tl_congr (g := eR x y most i (k + 1)) (fun j hj => by unfold eR; rw [hh j hj])]
      exact ih
    have other : ∀ j : Nat, (i : Int) + ((j : Int) - most) ≠ k → pk x y ((j : Int) - most) i (k + 1) = pk x y ((j : Int) - most) i k := fun j hj => by
      unfold pk
      by_cases c : (i : Int) + ((j : Int) - most) < k
      · rw [if_pos c, if_pos (by omega)]
      · rw [if_neg c, if_neg (by omega)]
    have at_ : ∀ j : Nat, (i : Int) + ((j : Int) - most) = k → pk x y ((j : Int) - most) i (k + 1) = x.getD i 0 * y.getD k 0 ∧ pk x y ((j : Int) - most) i k = 0 := fun j hj => by
      unfold pk pr
      rw [if_pos (by omega), if_pos (by omega), if_neg (by omega), show ((i : Int) + ((j : Int) - most)).toNat = k by omega]
      exact ⟨rfl, rfl⟩
    by_cases c1 : (k : Int) - i < -(most : Int)
    · exact evp c1 (same fun j hj => other j (by omega))
    by_cases c2 : (k : Int) - i > most
    · exact evn c1 (evp c2 (same fun j hj => other j (by omega)))
    refine evn c1 (evn c2 (evp (by omega) (evp (by omega) ?_)))
    obtain ⟨j0, hj0⟩ := Int.eq_ofNat_of_zero_le (show 0 ≤ (k : Int) - i + most by omega)
    have zero : x.getD i 0 * y.getD k 0 = 0 → ∀ j, j < 2 * most + 1 → pk x y ((j : Int) - most) i (k + 1) = pk x y ((j : Int) - most) i k := fun hz j hj => by
      by_cases e : (i : Int) + ((j : Int) - most) = k
      · rw [(at_ j e).1, (at_ j e).2, hz]
      · exact other j e
    by_cases c3 : x.getD i 0 = 0
    · exact evp c3 (same (zero (by rw [c3, Int.zero_mul])))
    refine evn c3 (evp (by omega) ?_)
    by_cases c4 : y.getD k 0 = 0
    · exact evp c4 (same (zero (by rw [c4, Int.mul_zero])))
    have hp := okd_mul hxi hyk
    have hne : x.getD i 0 * y.getD k 0 ≠ 0 := fun h => by
      rcases Int.mul_eq_zero.1 h with h | h
      · exact c3 h
      · exact c4 h
    have hj : (i : Int) + ((j0 : Int) - most) = k := by omega
    obtain ⟨a1, a2⟩ := at_ j0 hj
    have hj0lt : j0 < 2 * most + 1 := by omega
    have hb1 := tot_bound x y ((j0 : Int) - most) hx hy i
    have hb2 := cnt_bound (x) y ((j0 : Int) - most) i
    refine evn c4 ?_
    rw [w64 (x := (k : Int) - i + most) (by omega) (by omega), hj0, tl_length, tl_get _ hj0lt, Int.toNat_natCast]
    have e0 : eR x y most i k j0 = ⟨tot x y ((j0 : Int) - most) i, cnt x y ((j0 : Int) - most) i⟩ := by
      unfold eR
      rw [a2, if_pos rfl, Int.add_zero, Int.add_zero]
    rw [e0]
    dsimp only
    rw [w64 (x := x.getD i 0 * y.getD k 0) (by omega) (by omega), w64 (x := tot x y ((j0 : Int) - most) i + x.getD i 0 * y.getD k 0) (by omega) (by omega), w64 (x := cnt x y ((j0 : Int) - most) i + 1) (by omega) (by omega)]
    refine evp (by omega) (evp (by omega) (Ev.bind (Ev.now _) ?_))
    rw [tl_set, tl_get _ hj0lt, if_pos rfl]
    dsimp only
    rw [tl_set]
    rw [tl_congr (g := eR x y most i (k + 1)) (fun j hjl => by
      by_cases e : j = j0
      · subst e
        rw [if_pos rfl]
        unfold eR
        rw [a1, if_neg hne]
      · rw [if_neg e, if_neg e]
        unfold eR
        rw [other j (by omega)])]
    exact ih
theorem rlag_loop : ∀ (m i : Nat), i + m = x.length → Ev (fun k => fringeref16_Of.l0 k x y most (tl (2 * most + 1) (fun j => lagE x y ((j : Int) - most) i)) i) (lagL x y most (2 * most + 1), 0) := by
  intro m
  induction m with
  | zero =>
    intro i hi
    have : i = x.length := by omega
    subst this
    refine Ev.step (fun k => fringeref16_Of.l0.eq_2 _ _ _ _ _ k) (evn (by omega) ?_)
    rw [tl_lag]
    exact Ev.now _
  | succ m ih =>
    intro i hi
    refine Ev.step (fun k => fringeref16_Of.l0.eq_2 _ _ _ _ _ k) (evp (by omega) ?_)
    have h := rlag_row hx hy hm (show i < x.length by omega) (ih (i + 1) (by omega)) y.length 0 (Nat.zero_add _)
    rw [tl_congr (fun j _ => eR_zero x y most i j)] at h
    exact h
theorem rlag_ev : Ev (fun k => fringeref16_Of.f k x y most) (lagL x y most (2 * most + 1), 0) := by
  have hc1 : Ev (fun k => fringeref13_Check.f k x) 0 := str_chk hx ▸ refCheck_ev x
  have hc2 : Ev (fun k => fringeref13_Check.f k y) 0 := str_chk hy ▸ refCheck_ev y
  refine Ev.congr (fun k => fringeref16_Of.f.eq_1 k _ _ _) (Ev.bind hc1 (evp rfl (Ev.bind hc2 (evp rfl (evn (by omega) ?_)))))
  rw [decide_eq_false (by omega)]
  have e : wrap64 (wrap64 (2 * (most : Int)) + 1) = ((2 * most + 1 : Nat) : Int) := by
    rw [w64 (x := 2 * (most : Int)) (by omega) (by omega), w64 (by omega) (by omega)]
    omega
  refine Ev.step (fun k => fringeref16_Of.j0.eq_2 _ _ _ _ k) (evn (by decide) ?_)
  rw [e]
  refine evp (by omega) (evp (by omega) ?_)
  rw [Int.toNat_natCast]
  have h := rlag_loop hx hy hm x.length 0 (Nat.zero_add _)
  have e2 : List.replicate (2 * most + 1) z39 = tl (2 * most + 1) (fun j => lagE x y ((j : Int) - most) 0) := by
    refine List.ext_getElem (by simp [tl]) fun j h1 h2 => ?_
    simp [tl]
    rfl
  rw [e2]
  exact h
end
theorem lag_all (x y : List Int) (m : Int) : ∃ l e, Ev (fun k => lag_Of.f k x y m) (l, e) ∧ Ev (fun k => fringeref16_Of.f k x y m) (l, e) ∧ l.length ≤ 600 := by
  have h1 : ∀ k, lag_Of.f k x y m = _ := fun k => lag_Of.f.eq_1 k _ _ _
  have h2 : ∀ k, fringeref16_Of.f k x y m = _ := fun k => fringeref16_Of.f.eq_1 k _ _ _
  have kx : ∀ {l : List Int} {g : Int → Nat → Option (List SL × Int)} {res}, Ev (g (chk l)) res → Ev (fun k => (sample_Check.f l).bind fun t => g t k) res := fun h => by rw [sample_Check_eq]; exact Ev.bind (Ev.now _) h
  have j1 : Ev (fun k => lag_Of.j0 k x y m true) ([], 2) := Ev.step (fun k => lag_Of.j0.eq_2 _ _ _ _ k) (evp rfl (Ev.now _))
  have j2 : Ev (fun k => fringeref16_Of.j0 k x y m true) ([], 2) := Ev.step (fun k => fringeref16_Of.j0.eq_2 _ _ _ _ k) (evp rfl (Ev.now _))
  by_cases c0 : chk x = 0
  · by_cases c1 : chk y = 0
    · by_cases c2 : m < 0
      · exact ⟨[], 2, Ev.congr h1 (kx (evp c0 (kx (evp c1 (evp c2 j1))))), Ev.congr h2 (Ev.bind (refCheck_ev x) (evp c0 (Ev.bind (refCheck_ev y) (evp c1 (evp c2 j2))))), by simp⟩
      by_cases c3 : m > 255
      · refine ⟨[], 2, Ev.congr h1 (kx (evp c0 (kx (evp c1 (evn c2 ?_))))), Ev.congr h2 (Ev.bind (refCheck_ev x) (evp c0 (Ev.bind (refCheck_ev y) (evp c1 (evn c2 ?_))))), by simp⟩
        · rw [decide_eq_true c3]; exact j1
        · rw [decide_eq_true c3]; exact j2
      obtain ⟨n, rfl⟩ := Int.eq_ofNat_of_zero_le (show 0 ≤ m by omega)
      exact ⟨_, _, lag_ev (chk_str c0) (chk_str c1) (by omega), rlag_ev (chk_str c0) (chk_str c1) (by omega), by rw [lagL_length]; omega⟩
    · exact ⟨[], chk y, Ev.congr h1 (kx (evp c0 (kx (evn c1 (Ev.now _))))), Ev.congr h2 (Ev.bind (refCheck_ev x) (evp c0 (Ev.bind (refCheck_ev y) (evn c1 (Ev.bind (refCheck_ev y) (Ev.now _)))))), by simp⟩
  · exact ⟨[], chk x, Ev.congr h1 (kx (evn c0 (Ev.now _))), Ev.congr h2 (Ev.bind (refCheck_ev x) (evn c0 (Ev.bind (refCheck_ev x) (Ev.now _)))), by simp⟩
/-! cuts -/
def cutA (x : List Int) (n : Nat) : List Int := x.take n ++ List.replicate (x.length - n) 0
def cutB (x : List Int) (n : Nat) : List Int := List.replicate n 0 ++ x.drop n
theorem cutA_length {x : List Int} {n : Nat} (h : n ≤ x.length) : (cutA x n).length = x.length := by simp [cutA]; omega
theorem cutB_length {x : List Int} {n : Nat} (h : n ≤ x.length) : (cutB x n).length = x.length := by simp [cutB]; omega
theorem cutA_get {x : List Int} {n : Nat} (h : n ≤ x.length) (k : Nat) : (cutA x n).getD k 0 = if k < n then x.getD k 0 else 0 := by
  unfold cutA
  simp only [List.getD_eq_getElem?_getD]
  by_cases c : k < n
  · rw [if_pos c, List.getElem?_append_left (by rw [List.length_take]; omega), List.getElem?_take_of_lt c]
  · rw [if_neg c, List.getElem?_append_right (by rw [List.length_take]; omega), List.length_take, List.getElem?_replicate]
    split <;> rfl
theorem cutB_get {x : List Int} {n : Nat} (h : n ≤ x.length) (k : Nat) : (cutB x n).getD k 0 = if k < n then 0 else x.getD k 0 := by
  unfold cutB
  simp only [List.getD_eq_getElem?_getD]
  by_cases c : k < n
  · rw [if_pos c, List.getElem?_append_left (by rw [List.length_replicate]; omega), List.getElem?_replicate, if_pos c]; rfl
  · rw [if_neg c, List.getElem?_append_right (by rw [List.length_replicate]; omega), List.length_replicate, List.getElem?_drop, show n + (k - n) = k by omega]
theorem cut_ev {x : List Int} (hx : str x) {n : Nat} (h : n ≤ x.length) : lag_Cut.f x n = some (cutA x n, cutB x n, 0) := by
  have hl := hx.1
  unfold lag_Cut.f
  rw [sample_Check_eq, str_chk hx, Option.bind_some, if_pos rfl, if_neg (by omega), if_neg (by omega), if_pos (by omega), if_pos (by omega), Int.toNat_natCast]
  rfl
theorem rcut_ev {x : List Int} (hx : str x) {n : Nat} (h : n ≤ x.length) : Ev (fun k => fringeref16_Cut.f k x n) (cutA x n, cutB x n, 0) := by
  have hl := hx.1
  have hc : Ev (fun k => fringeref13_Check.f k x) 0 := str_chk hx ▸ refCheck_ev x
  refine Ev.congr (fun k => fringeref16_Cut.f.eq_1 k _ _) (Ev.bind hc (evp rfl (evn (by omega) ?_)))
  rw [decide_eq_false (by omega)]
  refine Ev.step (fun k => fringeref16_Cut.j0.eq_2 _ _ _ k) (evn (by decide) ?_)
  have key : ∀ (m i : Nat), i + m = x.length → Ev (fun k => fringeref16_Cut.l0 k x n ((cutA x n).take i) ((cutB x n).take i) i) (cutA x n, cutB x n, 0) := by
    intro m
    induction m with
    | zero =>
      intro i hi
      have : i = x.length := by omega
      subst this
      refine Ev.step (fun k => fringeref16_Cut.l0.eq_2 _ _ _ _ _ k) (evn (by omega) ?_)
      rw [List.take_of_length_le (by rw [cutA_length h]; exact Nat.le_refl _), List.take_of_length_le (by rw [cutB_length h]; exact Nat.le_refl _)]
      exact Ev.now _
    | succ m ih =>
      intro i hi
      have ih := ih (i + 1) (by omega)
      have ta : (cutA x n).take (i + 1) = (cutA x n).take i ++ [(cutA x n).getD i 0] := by
        rw [List.take_add_one, List.getD_eq_getElem?_getD, List.getElem?_eq_getElem (by rw [cutA_length h]; omega)]; rfl
      have tb : (cutB x n).take (i + 1) = (cutB x n).take i ++ [(cutB x n).getD i 0] := by
        rw [List.take_add_one, List.getD_eq_getElem?_getD, List.getElem?_eq_getElem (by rw [cutB_length h]; omega)]; rfl
      have la : ((cutA x n).take i).length = i := by rw [List.length_take, cutA_length h]; omega
      have lb : ((cutB x n).take i).length = i := by rw [List.length_take, cutB_length h]; omega
      rw [ta, tb, cutA_get h, cutB_get h] at ih
      refine Ev.step (fun k => fringeref16_Cut.l0.eq_2 _ _ _ _ _ k) (evp (by omega) ?_)
      rw [rdD, succ1 (by omega)]
      by_cases c : i < n
      · rw [if_pos c, if_pos c] at ih
        refine evp (by omega) (evp (by omega) (Ev.bind (Ev.now _) (evp (by rw [la]; simp; omega) (Ev.bind (Ev.now _) (evp (by rw [lb]; simp; omega) ih)))))
      · rw [if_neg c, if_neg c] at ih
        refine evn (by omega) (Ev.bind (Ev.now _) (evp (by rw [la]; simp; omega) (evp (by omega) (Ev.bind (Ev.now _) (evp (by rw [lb]; simp; omega) ih)))))
  exact key x.length 0 (Nat.zero_add _)
theorem cut_all {x : List Int} (hl : x.length ≤ 300) (a : Int) : ∃ p q e, lag_Cut.f x a = some (p, q, e) ∧ Ev (fun k => fringeref16_Cut.f k x a) (p, q, e) ∧ p.length ≤ 300 ∧ q.length ≤ 300 := by
  have h2 : ∀ k, fringeref16_Cut.f k x a = _ := fun k => fringeref16_Cut.f.eq_1 k _ _
  have j2 : Ev (fun k => fringeref16_Cut.j0 k x a true) ([], [], 2) := Ev.step (fun k => fringeref16_Cut.j0.eq_2 _ _ _ k) (evp rfl (Ev.now _))
  by_cases c0 : chk x = 0
  · have hc : Ev (fun k => fringeref13_Check.f k x) 0 := c0 ▸ refCheck_ev x
    by_cases c1 : a < 0
    · exact ⟨[], [], 2, by unfold lag_Cut.f; rw [sample_Check_eq, c0, Option.bind_some, if_pos rfl, if_pos c1], Ev.congr h2 (Ev.bind hc (evp rfl (evp c1 j2))), by simp, by simp⟩
    by_cases c2 : a > x.length
    · refine ⟨[], [], 2, by unfold lag_Cut.f; rw [sample_Check_eq, c0, Option.bind_some, if_pos rfl, if_neg c1, if_pos c2], Ev.congr h2 (Ev.bind hc (evp rfl (evn c1 ?_))), by simp, by simp⟩
      rw [decide_eq_true c2]; exact j2
    obtain ⟨n, rfl⟩ := Int.eq_ofNat_of_zero_le (show 0 ≤ a by omega)
    have hn : n ≤ x.length := by omega
    exact ⟨_, _, _, cut_ev (chk_str c0) hn, rcut_ev (chk_str c0) hn, by rw [cutA_length hn]; exact hl, by rw [cutB_length hn]; exact hl⟩
  · refine ⟨[], [], chk x, by unfold lag_Cut.f; rw [sample_Check_eq, Option.bind_some, if_neg c0], Ev.congr h2 (Ev.bind (refCheck_ev x) (evn c0 (Ev.bind (refCheck_ev x) (Ev.now _)))), by simp, by simp⟩
theorem sameL_loop (l : List SL) (hl : l.length ≤ 1000) : ∀ (m i : Nat), i + m = l.length → Ev (fun k => fringeref16_Same.l0 k l l i) true := by
  intro m
  induction m with
  | zero =>
    intro i hi
    exact Ev.step (fun k => fringeref16_Same.l0.eq_2 _ _ _ k) (evn (by omega) (Ev.now _))
  | succ m ih =>
    intro i hi
    refine Ev.step (fun k => fringeref16_Same.l0.eq_2 _ _ _ k) (evp (by omega) (evp (by omega) (evp (by omega) (evn (by simp) ?_))))
    rw [succ1 (by omega)]
    exact ih (i + 1) (by omega)
theorem sameL_ev {l : List SL} (h : l.length ≤ 1000) : Ev (fun k => fringeref16_Same.f k l l) true :=
  Ev.congr (fun k => fringeref16_Same.f.eq_1 k _ _) (evp rfl (sameL_loop l h l.length 0 (Nat.zero_add _)))
theorem same13_loop (l : List Int) (hl : l.length ≤ 1000) : ∀ (m i : Nat), i + m = l.length → Ev (fun k => fringeref13_Same.l0 k l l i) true := by
  intro m
  induction m with
  | zero =>
    intro i hi
    exact Ev.step (fun k => fringeref13_Same.l0.eq_2 _ _ _ k) (evn (by omega) (Ev.now _))
  | succ m ih =>
    intro i hi
    refine Ev.step (fun k => fringeref13_Same.l0.eq_2 _ _ _ k) (evp (by omega) (evp (by omega) (evp (by omega) (evp rfl ?_))))
    rw [succ1 (by omega)]
    exact ih (i + 1) (by omega)
theorem same13_ev {l : List Int} (h : l.length ≤ 1000) : Ev (fun k => fringeref13_Same.f k l l) true :=
  Ev.congr (fun k => fringeref13_Same.f.eq_1 k _ _) (evp rfl (same13_loop l h l.length 0 (Nat.zero_add _)))
end Go.Proofs.Ytajdbccapandgaa.LA
