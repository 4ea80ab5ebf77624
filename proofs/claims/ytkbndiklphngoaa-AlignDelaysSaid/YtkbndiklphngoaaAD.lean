/- Delays and gaps of a stream: what the program's and the reference's loops come to, for every input. -/
import Derived.Test.YtkbndiklphngoaaSM
import Derived.Test.YtkbndiklphngoaaPAllx6
import Derived.Test.YtkbndiklphngoaaPAllx9
import Derived.Test.YtkbndiklphngoaaPAllx10
import Derived.Test.YtkbndiklphngoaaPAllx11
import Derived.Test.YtkbndiklphngoaaPAllx13
import Derived.Test.YtkbndiklphngoaaPAllx12
import Derived.Test.YtkbndiklphngoaaPAllx8
import Derived.Test.YtkbndiklphngoaaPAllx5
set_option linter.unusedVariables false
set_option linter.unusedSectionVars false
set_option linter.unusedSimpArgs false
namespace Go.Proofs.Ytkbndiklphngoaa.AD
open Go Go.RowKit Go.Proofs.Ytkbndiklphngoaa.PAll Go.Proofs.YtkbndiklphngoaaW.PrintWords Go.Proofs.YtkbndiklphngoaaW.PrintLast SM

abbrev SG := S56
theorem evp {α : Type} {c : Prop} [Decidable c] {g f : Nat → Option α} {r : α} (h : c) (e : Ev g r) : Ev (fun k => if c then g k else f k) r := Ev.congr (fun k => if_pos h) e
theorem evn {α : Type} {c : Prop} [Decidable c] {g f : Nat → Option α} {r : α} (h : ¬ c) (e : Ev f r) : Ev (fun k => if c then g k else f k) r := Ev.congr (fun k => if_neg h) e
theorem w64 {x : Int} (h0 : -9223372036854775808 ≤ x) (h1 : x ≤ 9223372036854775807) : wrap64 x = x := by unfold wrap64; omega
theorem succ1 {i : Nat} (hi : i ≤ 4000000000) : wrap64 ((i : Int) + 1) = ((i + 1 : Nat) : Int) := by
  rw [w64 (by omega) (by omega)]; rfl
theorem rdD (l : List Int) (k : Nat) : rd l (k : Int) = l.getD k 0 := by simp [rd]
def chk (l : List Int) : Int := if (l.length : Int) > 256 then 4 else if l.all sample_okd then 0 else 8
theorem okd_iff (x : Int) : sample_okd x = true ↔ okd x := by
  unfold sample_okd okd
  simp [or_assoc]
theorem chk_str {l : List Int} (h : chk l = 0) : str l := by
  unfold chk at h
  split at h
  · omega
  · split at h
    · rename_i h1 h2
      exact ⟨by omega, fun x hx => (okd_iff x).1 (List.all_eq_true.1 h2 x hx)⟩
    · omega
theorem str_chk {l : List Int} (h : str l) : chk l = 0 := by
  have := h.1
  unfold chk
  rw [if_neg (by omega), if_pos (List.all_eq_true.2 fun x hx => (okd_iff x).2 (h.2 x hx))]
theorem sample_Check_eq (l : List Int) : sample_Check.f l = some (chk l) := rfl
theorem Digit_eq (x : Int) : ∃ d, fringeref13_Digit.f x = some d ∧ (d < 0 ↔ ¬ sample_okd x = true) := by
  rw [okd_iff]
  unfold fringeref13_Digit.f okd
  by_cases h0 : x = 0
  · exact ⟨0, if_pos h0, by omega⟩
  rw [if_neg h0]
  by_cases h1 : x = -3
  · exact ⟨1, if_pos h1, by omega⟩
  rw [if_neg h1]
  by_cases h2 : x = -1
  · exact ⟨2, if_pos h2, by omega⟩
  rw [if_neg h2]
  by_cases h3 : x = 1
  · exact ⟨3, if_pos h3, by omega⟩
  rw [if_neg h3]
  by_cases h4 : x = 3
  · exact ⟨4, if_pos h4, by omega⟩
  rw [if_neg h4]
  exact ⟨-1, rfl, by omega⟩
theorem refCheck_loop (l : List Int) (hl : l.length ≤ 256) : ∀ (m i : Nat), i + m = l.length → Ev (fun k => fringeref13_Check.l0 k l i) (if (l.drop i).all sample_okd then 0 else 8) := by
  intro m
  induction m with
  | zero =>
    intro i hi
    refine Ev.step (fun k => fringeref13_Check.l0.eq_2 _ _ k) ?_
    rw [List.drop_eq_nil_of_le (by omega)]
    exact evn (by omega) (Ev.now 0)
  | succ m ih =>
    intro i hi
    have hlt : i < l.length := by omega
    refine Ev.step (fun k => fringeref13_Check.l0.eq_2 _ _ k) ?_
    refine evp (by omega) (evp (by omega) ?_)
    obtain ⟨d, e, hd⟩ := Digit_eq (rd l i)
    rw [e, succ1 (by omega)]
    have hr : rd l i = l[i] := by rw [rdD]; simp [hlt]
    rw [hr] at hd
    rw [List.drop_eq_getElem_cons hlt, List.all_cons]
    refine Ev.bind (Ev.now d) ?_
    by_cases hneg : d < 0
    · have := hd.1 hneg
      rw [Bool.eq_false_iff.2 this]
      exact evp hneg (Ev.now 8)
    · have : sample_okd l[i] = true := by
        rcases Bool.eq_false_or_eq_true (sample_okd l[i]) with h | h
        · exact h
        · exact absurd (hd.2 (by rw [h]; decide)) hneg
      rw [this]
      exact evn hneg (ih (i + 1) (by omega))
theorem refCheck_ev (l : List Int) : Ev (fun k => fringeref13_Check.f k l) (chk l) := by
  refine Ev.congr (fun k => fringeref13_Check.f.eq_1 k _) ?_
  unfold chk
  by_cases h : (l.length : Int) > 256
  · rw [if_pos h]; exact evp h (Ev.now 4)
  · rw [if_neg h]; exact evn h (refCheck_loop l (by omega) l.length 0 (Nat.zero_add _))
/-! lists told by a function -/
def tb (n : Nat) (f : Nat → Int) : List Int := (List.range n).map f
theorem tb_length (n : Nat) (f : Nat → Int) : (tb n f).length = n := by simp [tb]
theorem tb_getD {n : Nat} (f : Nat → Int) {j : Nat} (h : j < n) : (tb n f).getD j 0 = f j := by simp [tb, List.getD, h]
theorem tb_congr {n : Nat} {f g : Nat → Int} (h : ∀ j, j < n → f j = g j) : tb n f = tb n g := List.map_congr_left fun j hj => h j (List.mem_range.1 hj)
theorem tb_set {n : Nat} (f : Nat → Int) (i : Nat) (v : Int) : (tb n f).set i v = tb n (fun j => if j = i then v else f j) := by
  refine List.ext_getElem (by simp [tb]) fun j h1 h2 => ?_
  rw [List.getElem_set]
  simp only [tb, List.getElem_map, List.getElem_range]
  by_cases e : j = i
  · rw [if_pos e, if_pos e.symm]
  · rw [if_neg e, if_neg (fun h => e h.symm)]
theorem tb_zero (n : Nat) : List.replicate n (0 : Int) = tb n (fun _ => 0) := by
  refine List.ext_getElem (by simp [tb]) fun j h1 h2 => ?_
  simp [tb]
def dl (s : List Int) (d : Int) (i : Nat) (j : Nat) : Int := if 0 ≤ (j : Int) - d ∧ (j : Int) - d < i then s.getD ((j : Int) - d).toNat 0 else 0
/-- A stream that is delayed. -/
def dlay (s : List Int) (d : Int) : List Int := tb s.length (dl s d s.length)
theorem dlay_length (s : List Int) (d : Int) : (dlay s d).length = s.length := tb_length _ _
section
variable {s : List Int} {d : Int} (hs : s.length ≤ 300) (hd : -64 ≤ d ∧ d ≤ 64)
include hs hd
theorem delay_loop : ∀ (m i : Nat), i + m = s.length → Ev (fun k => align_Delay.l0 k s d (tb s.length (fun j => if j < i then dl s d s.length j else 0)) (s.length : Int) i) (dlay s d, 0) := by
  intro m
  induction m with
  | zero =>
    intro i hi
    have : i = s.length := by omega
    subst this
    refine Ev.step (fun k => align_Delay.l0.eq_2 _ _ _ _ _ k) (evn (by omega) ?_)
    rw [tb_congr (g := dl s d s.length) (fun j hj => if_pos hj)]
    exact Ev.now _
  | succ m ih =>
    intro i hi
    have ih := ih (i + 1) (by omega)
    refine Ev.step (fun k => align_Delay.l0.eq_2 _ _ _ _ _ k) (evp (by omega) ?_)
    rw [w64 (x := (i : Int) - d) (by omega) (by omega), succ1 (by omega), tb_length]
    have same : (¬ (0 ≤ (i : Int) - d ∧ (i : Int) - d < s.length)) → Ev (fun k => align_Delay.l0 k s d (tb s.length (fun j => if j < i then dl s d s.length j else 0)) (s.length : Int) ((i + 1 : Nat) : Int)) (dlay s d, 0) := fun hn => by
      rw [tb_congr (g := fun j => if j < i + 1 then dl s d s.length j else 0) (fun j hj => by
        by_cases e : j = i
        · subst e
          rw [if_neg (by omega), if_pos (by omega), dl, if_neg hn]
        · by_cases h : j < i
          · rw [if_pos h, if_pos (by omega)]
          · rw [if_neg h, if_neg (by omega)])]
      exact ih
    by_cases h1 : (i : Int) - d ≥ 0
    · by_cases h2 : (i : Int) - d < s.length
      · refine evp h1 (evp h2 (evp h1 (evp (by omega) (evp (by omega) ?_))))
        obtain ⟨q, hq⟩ := Int.eq_ofNat_of_zero_le h1
        rw [hq, rdD, Int.toNat_natCast, tb_set]
        rw [tb_congr (g := fun j => if j < i + 1 then dl s d s.length j else 0) (fun j hj => by
          by_cases e : j = i
          · subst e
            rw [if_pos rfl, if_pos (by omega), dl, if_pos ⟨h1, h2⟩, hq, Int.toNat_natCast]
          · rw [if_neg e]
            by_cases h : j < i
            · rw [if_pos h, if_pos (by omega)]
            · rw [if_neg h, if_neg (by omega)])]
        exact ih
      · exact evp h1 (evn h2 (same (by omega)))
    · exact evn h1 (same (by omega))
theorem rdelay_loop : ∀ (m i : Nat), i + m = s.length → Ev (fun k => fringeref14_Delay.l0 k s d (tb s.length (dl s d i)) i) (dlay s d, 0) := by
  intro m
  induction m with
  | zero =>
    intro i hi
    have : i = s.length := by omega
    subst this
    exact Ev.step (fun k => fringeref14_Delay.l0.eq_2 _ _ _ _ k) (evn (by omega) (Ev.now _))
  | succ m ih =>
    intro i hi
    have ih := ih (i + 1) (by omega)
    refine Ev.step (fun k => fringeref14_Delay.l0.eq_2 _ _ _ _ k) (evp (by omega) ?_)
    rw [w64 (x := (i : Int) + d) (by omega) (by omega), succ1 (by omega), tb_length]
    have same : (¬ (0 ≤ (i : Int) + d ∧ (i : Int) + d < s.length)) → Ev (fun k => fringeref14_Delay.l0 k s d (tb s.length (dl s d i)) ((i + 1 : Nat) : Int)) (dlay s d, 0) := fun hn => by
      rw [tb_congr (g := dl s d (i + 1)) (fun j hj => by
        unfold dl
        by_cases h : 0 ≤ (j : Int) - d ∧ (j : Int) - d < i
        · rw [if_pos h, if_pos (by omega)]
        · rw [if_neg h, if_neg (by omega)])]
      exact ih
    by_cases h1 : (i : Int) + d ≥ 0
    · by_cases h2 : (i : Int) + d < s.length
      · refine evp h1 (evp h2 (evp (by omega) (evp h1 (evp h2 ?_))))
        obtain ⟨q, hq⟩ := Int.eq_ofNat_of_zero_le h1
        rw [hq, rdD, Int.toNat_natCast, tb_set]
        rw [tb_congr (g := dl s d (i + 1)) (fun j hj => by
          unfold dl
          by_cases e : j = q
          · subst e
            rw [if_pos rfl, if_pos (by omega), show (j : Int) - d = (i : Int) by omega, Int.toNat_natCast]
          · rw [if_neg e]
            by_cases h : 0 ≤ (j : Int) - d ∧ (j : Int) - d < i
            · rw [if_pos h, if_pos (by omega)]
            · rw [if_neg h, if_neg (by omega)])]
        exact ih
      · exact evp h1 (evn h2 (same (by omega)))
    · exact evn h1 (same (by omega))
end
theorem delay_ev {s : List Int} {d : Int} (hs : str s) (hd : -64 ≤ d ∧ d ≤ 64) : Ev (fun k => align_Delay.f k s d) (dlay s d, 0) := by
  have hl := hs.1
  refine Ev.congr (fun k => align_Delay.f.eq_1 k _ _) ?_
  rw [sample_Check_eq, str_chk hs]
  refine Ev.bind (Ev.now _) (evp rfl (evn (by omega) ?_))
  rw [decide_eq_false (by omega)]
  refine Ev.step (fun k => align_Delay.j0.eq_2 _ _ _ k) (evn (by decide) (evp (by omega) (evp (by omega) (Ev.bind (Ev.now _) ?_))))
  rw [Int.toNat_natCast, List.length_replicate, tb_zero]
  have := delay_loop (s := s) (by omega) hd s.length 0 (Nat.zero_add _)
  rw [tb_congr (g := fun _ => 0) (fun j hj => if_neg (by omega))] at this
  exact this
theorem delay_all {s : List Int} (hl : s.length ≤ 300) (d : Int) : ∃ l e, Ev (fun k => align_Delay.f k s d) (l, e) ∧ Ev (fun k => fringeref14_Delay.f k s d) (l, e) ∧ l.length ≤ 300 := by
  have h1 : ∀ k, align_Delay.f k s d = _ := fun k => align_Delay.f.eq_1 k _ _
  have h2 : ∀ k, fringeref14_Delay.f k s d = _ := fun k => fringeref14_Delay.f.eq_1 k _ _
  have j1 : Ev (fun k => align_Delay.j0 k s d true) ([], 2) := Ev.step (fun k => align_Delay.j0.eq_2 _ _ _ k) (evp rfl (Ev.now _))
  have j2 : Ev (fun k => fringeref14_Delay.j0 k s d true) ([], 2) := Ev.step (fun k => fringeref14_Delay.j0.eq_2 _ _ _ k) (evp rfl (Ev.now _))
  by_cases c0 : chk s = 0
  · have k1 : ∀ {g : Int → Nat → Option (List Int × Int)} {res}, Ev (g 0) res → Ev (fun k => (sample_Check.f s).bind fun t => g t k) res := fun h => by rw [sample_Check_eq, c0]; exact Ev.bind (Ev.now _) h
    have hc : Ev (fun k => fringeref13_Check.f k s) 0 := c0 ▸ refCheck_ev s
    by_cases c1 : d < -64
    · exact ⟨[], 2, Ev.congr h1 (k1 (evp rfl (evp c1 j1))), Ev.congr h2 (Ev.bind hc (evp rfl (evp c1 j2))), by simp⟩
    by_cases c2 : d > 64
    · refine ⟨[], 2, Ev.congr h1 (k1 (evp rfl (evn c1 ?_))), Ev.congr h2 (Ev.bind hc (evp rfl (evn c1 ?_))), by simp⟩
      · rw [decide_eq_true c2]; exact j1
      · rw [decide_eq_true c2]; exact j2
    refine ⟨_, _, delay_ev (chk_str c0) (by omega), ?_, by rw [dlay_length]; exact hl⟩
    refine Ev.congr h2 (Ev.bind hc (evp rfl (evn c1 ?_)))
    rw [decide_eq_false c2]
    refine Ev.step (fun k => fringeref14_Delay.j0.eq_2 _ _ _ k) (evn (by decide) (evp (by omega) (evp (by omega) ?_)))
    rw [Int.toNat_natCast, tb_zero]
    have := rdelay_loop (s := s) (d := d) hl (by omega) s.length 0 (Nat.zero_add _)
    rw [tb_congr (f := dl s d 0) (g := fun _ => 0) (fun j hj => if_neg (by omega))] at this
    exact this
  · refine ⟨[], chk s, Ev.congr h1 ?_, Ev.congr h2 (Ev.bind (refCheck_ev s) (evn c0 (Ev.bind (refCheck_ev s) (Ev.now _)))), by simp⟩
    rw [sample_Check_eq]; exact Ev.bind (Ev.now _) (evn c0 (Ev.now _))
/-! gaps -/
/-- n zeros begin at k, and no more. -/
def Run (s : List Int) (k n : Nat) : Prop := k + n ≤ s.length ∧ (∀ j, j < n → s.getD (k + j) 0 = 0) ∧ (k + n < s.length → s.getD (k + n) 0 ≠ 0)
theorem Run.unique {s : List Int} {k n m : Nat} (h : Run s k n) (g : Run s k m) : n = m := by
  obtain ⟨h1, h2, h3⟩ := h
  obtain ⟨g1, g2, g3⟩ := g
  rcases Nat.lt_trichotomy n m with hl | hl | hl
  · exact absurd (g2 n hl) (h3 (by omega))
  · exact hl
  · exact absurd (h2 m hl) (g3 (by omega))
theorem run_exists (s : List Int) : ∀ (m k : Nat), k + m = s.length → ∃ n, Run s k n := by
  intro m
  induction m with
  | zero => intro k hk; exact ⟨0, by omega, fun j hj => by omega, fun h => by omega⟩
  | succ m ih =>
    intro k hk
    by_cases h : s.getD k 0 = 0
    · obtain ⟨n, h1, h2, h3⟩ := ih (k + 1) (by omega)
      refine ⟨n + 1, by omega, fun j hj => ?_, fun hh => ?_⟩
      · cases j with
        | zero => exact h
        | succ j => have := h2 j (by omega); rwa [show k + (j + 1) = k + 1 + j by omega]
      · have := h3 (by omega); rwa [show k + (n + 1) = k + 1 + n by omega]
    · exact ⟨0, by omega, fun j hj => by omega, fun _ => h⟩
open Classical in
noncomputable def run (s : List Int) (k : Nat) : Nat := if h : ∃ n, Run s k n then Classical.choose h else 0
theorem run_spec {s : List Int} {k : Nat} (h : k ≤ s.length) : Run s k (run s k) := by
  have he := run_exists s (s.length - k) k (by omega)
  unfold run
  rw [dif_pos he]
  exact Classical.choose_spec he
noncomputable def gaps (s : List Int) : Nat → List SG
  | 0 => []
  | i + 1 => if s.getD i 0 = 0 ∧ (i = 0 ∨ s.getD (i - 1) 0 ≠ 0) then gaps s i ++ [⟨i, run s i⟩] else gaps s i
theorem gaps_length (s : List Int) : ∀ i, (gaps s i).length ≤ i
  | 0 => by simp [gaps]
  | i + 1 => by
    rw [gaps]
    have := gaps_length s i
    split
    · rw [List.length_append, List.length_singleton]; omega
    · omega
/-- What stands in the gaps till i. -/
theorem gaps_mem {s : List Int} : ∀ {i : Nat} {e : SG}, i ≤ s.length → e ∈ gaps s i → ∃ k, k < i ∧ e = ⟨(k : Int), (run s k : Int)⟩ ∧ s.getD k 0 = 0 ∧ (k = 0 ∨ s.getD (k - 1) 0 ≠ 0)
  | 0, e, _, h => by simp [gaps] at h
  | i + 1, e, hi, h => by
    rw [gaps] at h
    split at h
    · rename_i hc
      rcases List.mem_append.1 h with h | h
      · obtain ⟨k, h1, h2⟩ := gaps_mem (by omega) h
        exact ⟨k, by omega, h2⟩
      · rw [List.mem_singleton] at h
        exact ⟨i, by omega, h, hc.1, hc.2⟩
    · obtain ⟨k, h1, h2⟩ := gaps_mem (by omega) h
      exact ⟨k, by omega, h2⟩
/-- A gap behind which a sample is there ends before it. -/
theorem run_ends {s : List Int} {k i : Nat} (hi : i < s.length) (hk : k ≤ i) (h : s.getD i 0 ≠ 0) : k + run s k ≤ i := by
  obtain ⟨h1, h2, h3⟩ := run_spec (s := s) (k := k) (by omega)
  refine Nat.le_of_not_lt fun hlt => h ?_
  have := h2 (i - k) (by omega)
  rwa [show k + (i - k) = i by omega] at this
theorem last_split {α : Type} (l : List α) (h : l ≠ []) : ∃ q x, l = q ++ [x] := by
  induction l with
  | nil => exact absurd rfl h
  | cons a l ih =>
    cases l with
    | nil => exact ⟨[], a, rfl⟩
    | cons b l =>
      obtain ⟨q, x, e⟩ := ih (by simp)
      exact ⟨a :: q, x, by rw [e]; rfl⟩
theorem rd_last (q : List SG) (e : SG) : rd_T56 (q ++ [e]) (((q ++ [e]).length : Int) - 1) = e := by
  simp only [rd_T56, List.length_append, List.length_singleton, List.getD_eq_getElem?_getD]
  rw [show (((q.length + 1 : Nat) : Int) - 1).toNat = q.length by omega]
  simp
theorem set_last (q : List SG) (e e' : SG) : (q ++ [e]).set (((q ++ [e]).length : Int) - 1).toNat e' = q ++ [e'] := by
  rw [show (((q ++ [e]).length : Int) - 1).toNat = q.length by rw [List.length_append, List.length_singleton]; omega]
  simp [List.set_append_right]
/-- What the program holds after i samples. -/
def GI (s : List Int) (i : Nat) (g : List SG) : Prop :=
  if 0 < i ∧ s.getD (i - 1) 0 = 0 then ∃ q k, gaps s i = q ++ [⟨(k : Int), (run s k : Int)⟩] ∧ g = q ++ [⟨(k : Int), ((i - k : Nat) : Int)⟩] ∧ k < i ∧ ∀ j, k ≤ j → j < i → s.getD j 0 = 0 else g = gaps s i
theorem gaps_loop {s : List Int} (hs : s.length ≤ 300) : ∀ (m i : Nat) (g : List SG), i + m = s.length → GI s i g → g.length ≤ i → Ev (fun k => align_Gaps.l0 k g s (s.length : Int) i) (gaps s s.length, 0) := by
  intro m
  induction m with
  | zero =>
    intro i g hi hg hgl
    have : i = s.length := by omega
    subst this
    refine Ev.step (fun k => align_Gaps.l0.eq_2 _ _ _ _ k) (evn (by omega) ?_)
    have e : g = gaps s s.length := by
      unfold GI at hg
      split at hg
      · obtain ⟨q, k, h1, rfl, h3, h4⟩ := hg
        rw [h1]
        have : Run s k (s.length - k) := ⟨by omega, fun j hj => h4 _ (by omega) (by omega), fun h => by omega⟩
        rw [this.unique (run_spec (by omega))]
      · exact hg
    rw [e]
    exact Ev.now _
  | succ m ih =>
    intro i g hi hg hgl
    have ih := fun g => ih (i + 1) g (by omega)
    refine Ev.step (fun k => align_Gaps.l0.eq_2 _ _ _ _ k) (evp (by omega) (evp (by omega) (evp (by omega) ?_)))
    rw [rdD, succ1 (by omega)]
    by_cases h0 : s.getD i 0 = 0
    · refine evp h0 ?_
      by_cases hin : 0 < i ∧ s.getD (i - 1) 0 = 0
      · unfold GI at hg
        rw [if_pos hin] at hg
        obtain ⟨q, k, h1, rfl, h3, h4⟩ := hg
        have hql : (q ++ [(⟨(k : Int), ((i - k : Nat) : Int)⟩ : SG)]).length = q.length + 1 := by rw [List.length_append, List.length_singleton]
        rw [w64 (x := ((q ++ [(⟨(k : Int), ((i - k : Nat) : Int)⟩ : SG)]).length : Int) - 1) (by omega) (by omega), rd_last]
        dsimp only
        rw [w64 (x := (k : Int) + ((i - k : Nat) : Int)) (by omega) (by omega), w64 (x := ((i - k : Nat) : Int) + 1) (by omega) (by omega), set_last]
        refine evp (by omega) (evp (by omega) (evp (by omega) (evp (by omega) ?_)))
        refine ih _ ?_ (by rw [List.length_append, List.length_singleton]; omega)
        unfold GI
        rw [if_pos ⟨by omega, by rwa [Nat.add_sub_cancel]⟩]
        refine ⟨q, k, ?_, ?_, by omega, fun j h5 h6 => ?_⟩
        · rw [gaps, if_neg, h1]
          rintro ⟨_, h | h⟩
          · omega
          · exact h hin.2
        · rw [show ((i - k : Nat) : Int) + 1 = ((i + 1 - k : Nat) : Int) by omega]
        · by_cases e : j = i
          · rw [e]; exact h0
          · exact h4 j h5 (by omega)
      · unfold GI at hg
        rw [if_neg hin] at hg
        subst hg
        have hnew : i = 0 ∨ s.getD (i - 1) 0 ≠ 0 := by
          by_cases e : i = 0
          · exact .inl e
          · exact .inr fun h => hin ⟨by omega, h⟩
        have app : Ev (fun k => if (gaps s i).length < 8796093022208 then align_Gaps.l0 k (gaps s i ++ [(⟨(i : Int), 1⟩ : SG)]) s (s.length : Int) ((i + 1 : Nat) : Int) else none) (gaps s s.length, 0) := by
          refine evp (by omega) (ih _ ?_ (by rw [List.length_append, List.length_singleton]; omega))
          unfold GI
          rw [if_pos ⟨by omega, by rwa [Nat.add_sub_cancel]⟩]
          refine ⟨gaps s i, i, ?_, ?_, by omega, fun j h5 h6 => ?_⟩
          · rw [gaps, if_pos ⟨h0, hnew⟩]
          · rw [show i + 1 - i = 1 by omega]; rfl
          · rw [show j = i by omega]; exact h0
        by_cases hl : gaps s i = []
        · refine evn (by rw [hl]; simp) app
        · obtain ⟨q, e, he⟩ := last_split _ hl
          have hlen : (gaps s i).length = q.length + 1 := by rw [he, List.length_append, List.length_singleton]
          refine evp (by omega) ?_
          have hm : e ∈ gaps s i := by rw [he]; simp
          obtain ⟨k, h1, rfl, h3, h4⟩ := gaps_mem (by omega) hm
          have hend : k + run s k ≤ i - 1 := run_ends (by omega) (by omega) (by
            rcases hnew with rfl | h
            · omega
            · exact h)
          rw [w64 (x := ((gaps s i).length : Int) - 1) (by omega) (by omega)]
          refine evp (by omega) (evp (by omega) ?_)
          rw [show rd_T56 (gaps s i) (((gaps s i).length : Int) - 1) = ⟨(k : Int), (run s k : Int)⟩ by rw [he]; exact rd_last _ _]
          dsimp only
          rw [w64 (x := (k : Int) + (run s k : Int)) (by omega) (by omega)]
          exact evn (by omega) app
    · refine evn h0 (ih _ ?_ (by omega))
      unfold GI
      rw [if_neg (fun h => h0 (by have := h.2; rwa [Nat.add_sub_cancel] at this))]
      rw [gaps, if_neg (fun h => h0 h.1)]
      unfold GI at hg
      split at hg
      · obtain ⟨q, k, h1, rfl, h3, h4⟩ := hg
        rw [h1]
        have : Run s k (i - k) := ⟨by omega, fun j hj => h4 _ (by omega) (by omega), fun h => by rwa [show k + (i - k) = i by omega]⟩
        rw [this.unique (run_spec (by omega))]
      · exact hg
theorem gaps_ev {s : List Int} (hs : str s) : Ev (fun k => align_Gaps.f k s) (gaps s s.length, 0) := by
  have hl := hs.1
  refine Ev.congr (fun k => align_Gaps.f.eq_1 k _) ?_
  rw [sample_Check_eq, str_chk hs]
  refine Ev.bind (Ev.now _) (evp rfl (gaps_loop (by omega) s.length 0 [] (Nat.zero_add _) ?_ (by simp)))
  unfold GI
  rw [if_neg (by omega)]; rfl
theorem rgap_run {s : List Int} (hs : s.length ≤ 300) {k : Nat} (hk : k < s.length) {g : List SG} {res : List SG × Int} (hg : g.length ≤ 300)
    (h : Ev (fun f => fringeref14_Gaps.l0 f s (g ++ [⟨(k : Int), (run s k : Int)⟩]) ((k + 1 : Nat) : Int)) res) : ∀ (m i : Nat), i + m = run s k → Ev (fun f => fringeref14_Gaps.l1 f s g k i) res := by
  obtain ⟨h1, h2, h3⟩ := run_spec (s := s) (k := k) (by omega)
  intro m
  induction m with
  | zero =>
    intro i hi
    have : i = run s k := by omega
    subst this
    refine Ev.step (fun f => fringeref14_Gaps.l1.eq_2 _ _ _ _ f) ?_
    rw [w64 (x := (k : Int) + (run s k : Int)) (by omega) (by omega), succ1 (i := k) (by omega)]
    by_cases hlt : k + run s k < s.length
    · refine evp (by omega) (evp (by omega) ?_)
      rw [show (k : Int) + (run s k : Int) = ((k + run s k : Nat) : Int) by omega, rdD]
      exact evn (h3 hlt) (evp (by omega) h)
    · exact evn (by omega) (evp (by omega) h)
  | succ m ih =>
    intro i hi
    refine Ev.step (fun f => fringeref14_Gaps.l1.eq_2 _ _ _ _ f) ?_
    rw [w64 (x := (k : Int) + (i : Int)) (by omega) (by omega), succ1 (i := i) (by omega)]
    refine evp (by omega) (evp (by omega) ?_)
    rw [show (k : Int) + (i : Int) = ((k + i : Nat) : Int) by omega, rdD]
    exact evp (h2 i (by omega)) (ih (i + 1) (by omega))
theorem rgaps_loop {s : List Int} (hs : s.length ≤ 300) : ∀ (m i : Nat), i + m = s.length → Ev (fun k => fringeref14_Gaps.l0 k s (gaps s i) i) (gaps s s.length, 0) := by
  intro m
  induction m with
  | zero =>
    intro i hi
    have : i = s.length := by omega
    subst this
    exact Ev.step (fun k => fringeref14_Gaps.l0.eq_2 _ _ _ k) (evn (by omega) (Ev.now _))
  | succ m ih =>
    intro i hi
    have ih := ih (i + 1) (by omega)
    have hgl := gaps_length s i
    refine Ev.step (fun k => fringeref14_Gaps.l0.eq_2 _ _ _ k) (evp (by omega) (evp (by omega) ?_))
    rw [rdD]
    have skip : ¬ (s.getD i 0 = 0 ∧ (i = 0 ∨ s.getD (i - 1) 0 ≠ 0)) → Ev (fun k => fringeref14_Gaps.j1 k s (gaps s i) i true) (gaps s s.length, 0) := fun hn => by
      refine Ev.step (fun k => fringeref14_Gaps.j1.eq_2 _ _ _ _ k) (evp rfl ?_)
      rw [gaps, if_neg hn] at ih
      rw [succ1 (by omega)]
      exact ih
    have take : (s.getD i 0 = 0 ∧ (i = 0 ∨ s.getD (i - 1) 0 ≠ 0)) → Ev (fun k => fringeref14_Gaps.j1 k s (gaps s i) i false) (gaps s s.length, 0) := fun hy => by
      refine Ev.step (fun k => fringeref14_Gaps.j1.eq_2 _ _ _ _ k) (evn (by decide) ?_)
      rw [gaps, if_pos hy] at ih
      exact rgap_run hs (by omega) (by omega) ih (run s i) 0 (Nat.zero_add _)
    by_cases h0 : s.getD i 0 = 0
    · refine evp h0 ?_
      by_cases hp : i = 0
      · subst hp
        exact evn (by omega) (take ⟨h0, .inl rfl⟩)
      · refine evp (by omega) ?_
        rw [w64 (x := (i : Int) - 1) (by omega) (by omega)]
        refine evp (by omega) (evp (by omega) ?_)
        rw [show (i : Int) - 1 = ((i - 1 : Nat) : Int) by omega, rdD]
        by_cases h1 : s.getD (i - 1) 0 = 0
        · rw [beq_iff_eq.2 h1]
          exact skip (fun h => by
            rcases h.2 with h | h
            · exact hp h
            · exact h h1)
        · rw [beq_eq_false_iff_ne.2 h1]
          exact take ⟨h0, .inr h1⟩
    · exact evn h0 (skip (fun h => h0 h.1))
theorem gaps_all {s : List Int} (hl : s.length ≤ 300) : ∃ l e, Ev (fun k => align_Gaps.f k s) (l, e) ∧ Ev (fun k => fringeref14_Gaps.f k s) (l, e) ∧ l.length ≤ 300 := by
  by_cases c0 : chk s = 0
  · have hc : Ev (fun k => fringeref13_Check.f k s) 0 := c0 ▸ refCheck_ev s
    exact ⟨_, _, gaps_ev (chk_str c0), Ev.congr (fun k => fringeref14_Gaps.f.eq_1 k _) (Ev.bind hc (evp rfl (rgaps_loop hl s.length 0 (Nat.zero_add _)))), by have := gaps_length s s.length; omega⟩
  · refine ⟨[], chk s, Ev.congr (fun k => align_Gaps.f.eq_1 k _) ?_, Ev.congr (fun k => fringeref14_Gaps.f.eq_1 k _) (Ev.bind (refCheck_ev s) (evn c0 (Ev.bind (refCheck_ev s) (Ev.now _)))), by simp⟩
    rw [sample_Check_eq]; exact Ev.bind (Ev.now _) (evn c0 (Ev.now _))
theorem same13_loop (l : List Int) (hl : l.length ≤ 1000) : ∀ (m i : Nat), i + m = l.length → Ev (fun k => fringeref13_Same.l0 k l l i) true := by
  intro m
  induction m with
  | zero =>
    intro i hi
    exact Ev.step (fun k => fringeref13_Same.l0.eq_2 _ _ _ k) (evn (by omega) (Ev.now _))
  | succ m ih =>
    intro i hi
    refine Ev.step (fun k => fringeref13_Same.l0.eq_2 _ _ _ k) (evp (by omega) (evp (by omega) (evp (by omega) (evp rfl ?_))))
    rw [succ1 (by omega)]
    exact ih (i + 1) (by omega)
theorem same13_ev {l : List Int} (h : l.length ≤ 1000) : Ev (fun k => fringeref13_Same.f k l l) true :=
  Ev.congr (fun k => fringeref13_Same.f.eq_1 k _ _) (evp rfl (same13_loop l h l.length 0 (Nat.zero_add _)))
theorem sameG_loop (l : List SG) (hl : l.length ≤ 1000) : ∀ (m i : Nat), i + m = l.length → Ev (fun k => fringeref14_SameGaps.l0 k l l i) true := by
  intro m
  induction m with
  | zero =>
    intro i hi
    exact Ev.step (fun k => fringeref14_SameGaps.l0.eq_2 _ _ _ k) (evn (by omega) (Ev.now _))
  | succ m ih =>
    intro i hi
    refine Ev.step (fun k => fringeref14_SameGaps.l0.eq_2 _ _ _ k) (evp (by omega) (evp (by omega) (evp (by omega) (evn (by simp) ?_))))
    rw [succ1 (by omega)]
    exact ih (i + 1) (by omega)
theorem sameG_ev {l : List SG} (h : l.length ≤ 1000) : Ev (fun k => fringeref14_SameGaps.f k l l) true :=
  Ev.congr (fun k => fringeref14_SameGaps.f.eq_1 k _ _) (evp rfl (sameG_loop l h l.length 0 (Nat.zero_add _)))
end Go.Proofs.Ytkbndiklphngoaa.AD
