import Derived.Test.YtpooejjgaobcaaaSM
import Derived.Test.YtpooejjgaobcaaaPAllx12
import Derived.Test.YtpooejjgaobcaaaPAllx11
import Derived.Test.YtpooejjgaobcaaaPAllx15
set_option linter.unusedVariables false
set_option linter.unusedSectionVars false
set_option linter.unusedSimpArgs false
namespace Go.Proofs.Ytpooejjgaobcaaa.SL
open Go Go.RowKit Go.Proofs.Ytpooejjgaobcaaa.PAll Go.Proofs.YtpooejjgaobcaaaW.PrintWords Go.Proofs.YtpooejjgaobcaaaW.PrintLast SM

theorem evp {α : Type} {c : Prop} [Decidable c] {g f : Nat → Option α} {r : α} (h : c) (e : Ev g r) : Ev (fun k => if c then g k else f k) r := Ev.congr (fun k => if_pos h) e
theorem evn {α : Type} {c : Prop} [Decidable c] {g f : Nat → Option α} {r : α} (h : ¬ c) (e : Ev f r) : Ev (fun k => if c then g k else f k) r := Ev.congr (fun k => if_neg h) e
theorem w64 {x : Int} (h0 : -9223372036854775808 ≤ x) (h1 : x ≤ 9223372036854775807) : wrap64 x = x := by unfold wrap64; omega
theorem tdivN (a b : Nat) : Int.tdiv (a : Int) (b : Int) = ((a / b : Nat) : Int) := by rw [Int.tdiv_eq_ediv_of_nonneg (by omega)]; rfl
theorem tmodN (a b : Nat) : Int.tmod (a : Int) (b : Int) = ((a % b : Nat) : Int) := by rw [Int.tmod_eq_emod_of_nonneg (by omega)]; rfl
theorem rdD (l : List Int) (k : Nat) : rd l (k : Int) = l.getD k 0 := by simp [rd]
theorem succ1 {i : Nat} (hi : i ≤ 4000000000) : wrap64 ((i : Int) + 1) = ((i + 1 : Nat) : Int) := by
  rw [w64 (by omega) (by omega)]; rfl

theorem divw {i st : Nat} (hi : i ≤ 4000000000) : wrap64 (Int.tdiv (i : Int) (st : Int)) = ((i / st : Nat) : Int) := by
  have := Nat.div_le_self i st
  rw [tdivN]
  generalize i / st = q at *
  exact w64 (by omega) (by omega)

/-! the checks -/
def chk (l : List Int) : Int := if (l.length : Int) > 256 then 4 else if l.all sample_okd then 0 else 8
theorem okd_iff (x : Int) : sample_okd x = true ↔ okd x := by
  unfold sample_okd okd
  simp [or_assoc]
theorem chk_str {l : List Int} (h : chk l = 0) : str l := by
  unfold chk at h
  split at h
  · omega
  · rename_i h1
    split at h
    · rename_i h2
      exact ⟨by omega, fun x hx => (okd_iff x).1 (List.all_eq_true.1 h2 x hx)⟩
    · omega
theorem str_chk {l : List Int} (h : str l) : chk l = 0 := by
  unfold chk
  have := h.1
  rw [if_neg (by omega), if_pos (List.all_eq_true.2 fun x hx => (okd_iff x).2 (h.2 x hx))]
theorem sample_Check_eq (l : List Int) : sample_Check.f l = some (chk l) := rfl
theorem Digit_eq (x : Int) : ∃ d, fringeref13_Digit.f x = some d ∧ (d < 0 ↔ ¬ sample_okd x = true) := by
  rw [okd_iff]
  unfold fringeref13_Digit.f okd
  by_cases h0 : x = 0
  · exact ⟨0, if_pos h0, by omega⟩
  rw [if_neg h0]
  by_cases h1 : x = -3
  · exact ⟨1, if_pos h1, by omega⟩
  rw [if_neg h1]
  by_cases h2 : x = -1
  · exact ⟨2, if_pos h2, by omega⟩
  rw [if_neg h2]
  by_cases h3 : x = 1
  · exact ⟨3, if_pos h3, by omega⟩
  rw [if_neg h3]
  by_cases h4 : x = 3
  · exact ⟨4, if_pos h4, by omega⟩
  rw [if_neg h4]
  exact ⟨-1, rfl, by omega⟩
theorem refCheck_loop (l : List Int) (hl : l.length ≤ 256) : ∀ (m i : Nat), i + m = l.length → Ev (fun k => fringeref13_Check.l0 k l i) (if (l.drop i).all sample_okd then 0 else 8) := by
  intro m
  induction m with
  | zero =>
    intro i hi
    refine Ev.step (fun k => fringeref13_Check.l0.eq_2 _ _ k) ?_
    rw [List.drop_eq_nil_of_le (by omega)]
    exact evn (by omega) (Ev.now 0)
  | succ m ih =>
    intro i hi
    have hlt : i < l.length := by omega
    refine Ev.step (fun k => fringeref13_Check.l0.eq_2 _ _ k) ?_
    refine evp (by omega) (evp (by omega) ?_)
    obtain ⟨d, e, hd⟩ := Digit_eq (rd l i)
    rw [e, succ1 (by omega)]
    have hr : rd l i = l[i] := by rw [rdD]; simp [hlt]
    rw [hr] at hd
    rw [List.drop_eq_getElem_cons hlt, List.all_cons]
    refine Ev.bind (Ev.now d) ?_
    by_cases hneg : d < 0
    · have := hd.1 hneg
      rw [Bool.eq_false_iff.2 this]
      exact evp hneg (Ev.now 8)
    · have : sample_okd l[i] = true := by
        rcases Bool.eq_false_or_eq_true (sample_okd l[i]) with h | h
        · exact h
        · exact absurd (hd.2 (by rw [h]; decide)) hneg
      rw [this]
      exact evn hneg (ih (i + 1) (by omega))
theorem refCheck_ev (l : List Int) : Ev (fun k => fringeref13_Check.f k l) (chk l) := by
  refine Ev.congr (fun k => fringeref13_Check.f.eq_1 k _) ?_
  unfold chk
  by_cases h : (l.length : Int) > 256
  · rw [if_pos h]; exact evp h (Ev.now 4)
  · rw [if_neg h]; exact evn h (refCheck_loop l (by omega) l.length 0 (Nat.zero_add _))
def askE (x y : List Int) (s : Int) : Int := if chk x = 0 then (if chk y = 0 then (if s < 1 then 2 else if s > 256 then 2 else 0) else chk y) else chk x
theorem search_check_eq (x y : List Int) (s : Int) : search_check.f x y s = some (askE x y s) := by
  unfold search_check.f askE
  rw [sample_Check_eq, sample_Check_eq]
  simp only [Option.bind_some]
  split
  · split
    · split
      · rfl
      · split <;> rfl
    · rfl
  · rfl
theorem askE_zero {x y : List Int} {s : Int} (h : askE x y s = 0) : str x ∧ str y ∧ 1 ≤ s ∧ s ≤ 256 := by
  unfold askE at h
  split at h
  · rename_i h1
    split at h
    · rename_i h2
      split at h
      · omega
      · split at h
        · omega
        · exact ⟨chk_str h1, chk_str h2, by omega, by omega⟩
    · contradiction
  · contradiction
theorem askE_of {x y : List Int} {s : Int} (hx : str x) (hy : str y) (h1 : 1 ≤ s) (h2 : s ≤ 256) : askE x y s = 0 := by
  unfold askE
  rw [if_pos (str_chk hx), if_pos (str_chk hy), if_neg (by omega), if_neg (by omega)]

/-! turning -/
theorem four (q : Int) : Int.tmod (wrap64 ((Int.tmod q 4) + 4)) 4 = q % 4 := by
  have h1 : -4 < Int.tmod q 4 ∧ Int.tmod q 4 < 4 := by
    have a := Int.tmod_lt_of_pos q (show (0 : Int) < 4 by decide)
    have b := Int.tmod_lt_of_pos (-q) (show (0 : Int) < 4 by decide)
    rw [Int.neg_tmod] at b
    omega
  have h2 : Int.tmod q 4 % 4 = q % 4 := by
    have := Int.mul_tdiv_add_tmod q 4
    omega
  rw [w64 (by omega) (by omega), Int.tmod_eq_emod_of_nonneg (by omega)]
  omega
theorem turned_ev {a b : Int} (q : Int) (ha : -4611686018427387904 ≤ a ∧ a ≤ 4611686018427387904) (hb : -4611686018427387904 ≤ b ∧ b ≤ 4611686018427387904) : Ev (fun k => search_turned.f k a b q) (Tz q a b) := by
  refine Ev.congr (fun k => search_turned.f.eq_1 k _ _ _) ?_
  rw [four]
  have hq : 0 ≤ q % 4 ∧ q % 4 < 4 := by omega
  unfold Tz
  generalize q % 4 = n at *
  have e1 : wrap64 (-b) = -b := w64 (by omega) (by omega)
  have e2 : wrap64 (-a) = -a := w64 (by omega) (by omega)
  have e3 : wrap64 (-(-a)) = a := by rw [Int.neg_neg]; exact w64 (by omega) (by omega)
  have e4 : wrap64 (-(-b)) = b := by rw [Int.neg_neg]; exact w64 (by omega) (by omega)
  have n1 : wrap64 ((0 : Int) + 1) = 1 := by rw [w64 (by decide) (by decide)]; rfl
  have n2 : wrap64 ((1 : Int) + 1) = 2 := by rw [w64 (by decide) (by decide)]; rfl
  have n3 : wrap64 ((2 : Int) + 1) = 3 := by rw [w64 (by decide) (by decide)]; rfl
  have hn : (n = 0 ∨ n = 1) ∨ n = 2 ∨ n = 3 := by omega
  rcases hn with (rfl | rfl) | rfl | rfl
  · exact Ev.step (fun k => search_turned.l0.eq_2 _ _ _ _ k) (evn (by decide) (Ev.now _))
  · refine Ev.step (fun k => search_turned.l0.eq_2 _ _ _ _ k) (evp (by decide) ?_)
    rw [n1, e1]
    exact Ev.step (fun k => search_turned.l0.eq_2 _ _ _ _ k) (evn (by decide) (Ev.now _))
  · refine Ev.step (fun k => search_turned.l0.eq_2 _ _ _ _ k) (evp (by decide) ?_)
    rw [n1, e1]
    refine Ev.step (fun k => search_turned.l0.eq_2 _ _ _ _ k) (evp (by decide) ?_)
    rw [n2, e2]
    exact Ev.step (fun k => search_turned.l0.eq_2 _ _ _ _ k) (evn (by decide) (Ev.now _))
  · refine Ev.step (fun k => search_turned.l0.eq_2 _ _ _ _ k) (evp (by decide) ?_)
    rw [n1, e1]
    refine Ev.step (fun k => search_turned.l0.eq_2 _ _ _ _ k) (evp (by decide) ?_)
    rw [n2, e2]
    refine Ev.step (fun k => search_turned.l0.eq_2 _ _ _ _ k) (evp (by decide) ?_)
    rw [n3, e4]
    exact Ev.step (fun k => search_turned.l0.eq_2 _ _ _ _ k) (evn (by decide) (Ev.now _))
/-! a cell -/
theorem Tz_bound {a b B : Int} (q : Int) (h1 : -B ≤ a ∧ a ≤ B) (h2 : -B ≤ b ∧ b ≤ B) : (-B ≤ (Tz q a b).1 ∧ (Tz q a b).1 ≤ B) ∧ -B ≤ (Tz q a b).2 ∧ (Tz q a b).2 ≤ B := by
  unfold Tz
  split
  · dsimp only; omega
  · split
    · dsimp only; omega
    · split <;> dsimp only <;> omega
theorem fin_step {s : List Int} {r : Int} {n : Nat} {re im a q : Int} {res : Int × Int} (hs : rd s (3 - (n : Int)) = a) (hq : wrap64 (wrap64 (-r) * (3 - (n : Int))) = q) (ha : -2304 ≤ a ∧ a ≤ 2304) (hre : -100000 ≤ re ∧ re ≤ 100000) (him : -100000 ≤ im ∧ im ≤ 100000)
    (h : Ev (fun k => search_cell.fin k s r n (re + (Tz q a 0).1) (im + (Tz q a 0).2)) res) : Ev (fun k => search_cell.fin k s r (n + 1) re im) res := by
  have hb := Tz_bound (B := 2304) (a := a) (b := 0) q ha (by omega)
  refine Ev.congr (fun k => search_cell.fin.eq_2 k _ _ _ _ _) ?_
  rw [hs, hq]
  refine Ev.bind (turned_ev q (by omega) (by omega)) ?_
  rw [w64 (x := re + (Tz q a 0).1) (by omega) (by omega), w64 (x := im + (Tz q a 0).2) (by omega) (by omega)]
  exact h
theorem fin_ev {s0 s1 s2 s3 r : Int} (hr : 0 ≤ r ∧ r ≤ 3) (h0 : -2304 ≤ s0 ∧ s0 ≤ 2304) (h1 : -2304 ≤ s1 ∧ s1 ≤ 2304) (h2 : -2304 ≤ s2 ∧ s2 ≤ 2304) (h3 : -2304 ≤ s3 ∧ s3 ≤ 2304) {s : Nat → Int} (e0 : s 0 = s0) (e1 : s 1 = s1) (e2 : s 2 = s2) (e3 : s 3 = s3) :
    Ev (fun k => search_cell.fin k [s0, s1, s2, s3] r 4 0 0) (V r s) := by
  have b0 := Tz_bound (B := 2304) (a := s0) (b := 0) 0 h0 (by omega)
  have b1 := Tz_bound (B := 2304) (a := s1) (b := 0) (-r) h1 (by omega)
  have b2 := Tz_bound (B := 2304) (a := s2) (b := 0) (-r * 2) h2 (by omega)
  have hV : ((0 + (Tz 0 s0 0).1 + (Tz (-r) s1 0).1 + (Tz (-r * 2) s2 0).1 + (Tz (-r * 3) s3 0).1 : Int), (0 + (Tz 0 s0 0).2 + (Tz (-r) s1 0).2 + (Tz (-r * 2) s2 0).2 + (Tz (-r * 3) s3 0).2 : Int)) = V r s := by
    unfold V
    rw [e0, e1, e2, e3]
    have hr4 : (r = 0 ∨ r = 1) ∨ r = 2 ∨ r = 3 := by omega
    rcases hr4 with (rfl | rfl) | rfl | rfl <;> simp [Tz] <;> omega
  have q0 : wrap64 (-r) = -r := w64 (by omega) (by omega)
  refine fin_step (n := 3) (a := s0) (q := 0) rfl (by rw [q0]; exact (w64 (by omega) (by omega)).trans (by omega)) h0 (by omega) (by omega) ?_
  refine fin_step (n := 2) (a := s1) (q := -r) rfl (by rw [q0]; exact (w64 (by omega) (by omega)).trans (by omega)) h1 (by omega) (by omega) ?_
  refine fin_step (n := 1) (a := s2) (q := -r * 2) rfl (by rw [q0]; exact (w64 (by omega) (by omega)).trans (by omega)) h2 (by omega) (by omega) ?_
  refine fin_step (n := 0) (a := s3) (q := -r * 3) rfl (by rw [q0]; exact (w64 (by omega) (by omega)).trans (by omega)) h3 (by omega) (by omega) ?_
  rw [← hV]
  exact Ev.congr (fun k => search_cell.fin.eq_1 k _ _ _ _) (Ev.now _)
section
variable {x y : List Int} {d : Int} {st : Nat} (hx : str x) (hy : str y) (hd : -1000 ≤ d ∧ d ≤ 1000) (h1 : 1 ≤ st)
include hx hy hd h1
theorem prod_eq (k : Nat) (h : 0 ≤ (k : Int) + d ∧ (k : Int) + d < y.length) : wrap64 (rd x k * rd y ((k : Int) + d)) = pr x y d k := by
  have hb := pr_bound x y d hx hy k
  unfold pr at hb ⊢
  rw [if_pos h] at hb ⊢
  rw [rdD]
  unfold rd
  exact w64 (by omega) (by omega)
theorem acc_eq : ∀ n : Nat, n ≤ 256 → search_cell.acc x y d st n = [S x y d st 0 n, S x y d st 1 n, S x y d st 2 n, S x y d st 3 n] := by
  intro n
  induction n with
  | zero => intro _; rfl
  | succ n ih =>
    intro hn
    have ih := ih (by omega)
    have hp := prod_eq hx hy hd h1 n
    rw [search_cell.acc]
    have hb := pr_bound x y d hx hy n
    have hs := fun t => S_bound x y d st hx hy t n
    have e1 : (((n : Nat) : Int) / (st : Int)) % 4 = ((n / st % 4 : Nat) : Int) := rfl
    simp only [S]
    by_cases hc : 0 ≤ (n : Int) + d ∧ (n : Int) + d < y.length
    · rw [if_pos hc, hp hc, e1, ih, Int.toNat_natCast]
      have h0 := hs 0
      have h1 := hs 1
      have h2 := hs 2
      have h3 := hs 3
      have hm : (n / st % 4 = 0 ∨ n / st % 4 = 1) ∨ n / st % 4 = 2 ∨ n / st % 4 = 3 := by omega
      generalize pr x y d n = p at *
      generalize S x y d st 0 n = s0 at *
      generalize S x y d st 1 n = s1 at *
      generalize S x y d st 2 n = s2 at *
      generalize S x y d st 3 n = s3 at *
      rcases hm with (h | h) | h | h <;> rw [h]
      · have e := w64 (x := s0 + p) (by omega) (by omega)
        simp [rd, e]
      · have e := w64 (x := s1 + p) (by omega) (by omega)
        simp [rd, e]
      · have e := w64 (x := s2 + p) (by omega) (by omega)
        simp [rd, e]
      · have e := w64 (x := s3 + p) (by omega) (by omega)
        simp [rd, e]
    · have e0 : pr x y d n = 0 := if_neg hc
      rw [if_neg hc, ih, e0]
      simp
def cellOf (x y : List Int) (d : Int) (st : Nat) (r : Int) : S32 := ⟨d, r, ⟨(V r (fun t => S x y d st t x.length)).1, (V r (fun t => S x y d st t x.length)).2⟩, pw (V r (fun t => S x y d st t x.length))⟩
omit hd h1 in
theorem S_le (t : Nat) : -2304 ≤ S x y d st t x.length ∧ S x y d st t x.length ≤ 2304 := by
  have := S_bound x y d st hx hy t x.length
  have := hx.1
  omega
omit hx hy hd h1 in
theorem pw_wrap {v : Int × Int} (h : (-10000 ≤ v.1 ∧ v.1 ≤ 10000) ∧ -10000 ≤ v.2 ∧ v.2 ≤ 10000) : wrap64 (wrap64 (v.1 * v.1) + wrap64 (v.2 * v.2)) = pw v ∧ 0 ≤ pw v ∧ pw v ≤ 200000000 := by
  have h1 := sq_bound (b := 10000) (by decide) h.1.1 h.1.2
  have h2 := sq_bound (b := 10000) (by decide) h.2.1 h.2.2
  unfold pw
  rw [w64 (x := v.1 * v.1) (by omega) (by omega), w64 (x := v.2 * v.2) (by omega) (by omega), w64 (by omega) (by omega)]
  omega
theorem cell_ev {r : Int} (hr : 0 ≤ r ∧ r ≤ 3) : Ev (fun k => search_cell.f k x y d r st) ((cellOf x y d st r).f0, (cellOf x y d st r).f1, (cellOf x y d st r).f2.f0, (cellOf x y d st r).f2.f1, (cellOf x y d st r).f3) := by
  have hl := hx.1
  refine Ev.congr (fun k => search_cell.f.eq_1 k _ _ _ _ _) (evp (by omega) ?_)
  rw [acc_eq hx hy hd h1 _ hl]
  have hs := fun t => S_le (d := d) (st := st) hx hy t
  have hV := V_bound hs r
  have hp := (pw_wrap (v := V r (fun t => S x y d st t x.length)) (by omega)).1
  have h0 := hs 0
  have h1 := hs 1
  have h2 := hs 2
  have h3 := hs 3
  have hcell := fin_ev hr h0 h1 h2 h3 (s := fun t => S x y d st t x.length) rfl rfl rfl rfl
  refine Ev.bind hcell ?_
  unfold cellOf
  rw [hp]
  exact Ev.now _
theorem cell_pw {r : Int} : (cellOf x y d st r).f3 = wrap64 (wrap64 ((cellOf x y d st r).f2.f0 * (cellOf x y d st r).f2.f0) + wrap64 ((cellOf x y d st r).f2.f1 * (cellOf x y d st r).f2.f1)) ∧ 0 ≤ (cellOf x y d st r).f3 ∧ (cellOf x y d st r).f3 ≤ 200000000 := by
  have hs := fun t => S_le (d := d) (st := st) hx hy t
  have hV := V_bound hs r
  have hp := (pw_wrap (v := V r (fun t => S x y d st t x.length)) (by omega))
  exact ⟨hp.1.symm, hp.2⟩
end
end Go.Proofs.Ytpooejjgaobcaaa.SL
