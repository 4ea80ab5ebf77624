-- Written by a program of this session, after the kit's print
import Derived.Test.YtajdbccapandgaaPAllx0
import Derived.Test.YtajdbccapandgaaPAllx15
namespace Go.Proofs.Ytajdbccapandgaa.PAll
open Go.RowKit Go.Proofs.YtajdbccapandgaaW.PrintWords Go.Proofs.YtajdbccapandgaaW.PrintLast Go.Proofs.YtajdbccapandgaaW.PrintMore
attribute [local go_sem] max2_int min2_int max_two min_two max_three min_three max_four min_four   -- for this text's walks alone
set_option linter.unusedVariables false
set_option linter.unusedSimpArgs false

/-! ### lag_Check: function 19 -/
def lag_bad (x : S39) : Bool := (lag_Check_1.f x.f0 x.f1).getD false
def lag_Check.f (l0 : List S39) : Option Int := some (if (l0.length : Int) > 511 then 4 else if (l0.length : Int) % 2 = 0 then 8 else if l0.any lag_bad then 8 else 0)
theorem lag_bad_eq (x : S39) : lag_Check_1.f x.f0 x.f1 = some (lag_bad x) := by
  unfold lag_bad lag_Check_1.f
  split
  · rfl
  · split
    · rfl
    · split
      · rfl
      · split <;> rfl

theorem lag_Check.cl (x : S39) (w : World) :
    Calls Try.prog 26 #[.agg #[.int .i64 x.f0, .int .i64 x.f1]] w fun e w' => e = .returned (.bool (lag_bad x)) ∧ Below w.heap.size w w' := lag_Check_1.calls x.f0 x.f1 _ w (lag_bad_eq x)

theorem lag_Check.idx (A : Option Addr) (c : Nat) (l : List S39) (w : World) (hr0 : Kd.C k39 w A l.length l) (hc0 : l.length ≤ c) :
    Calls Try.prog 36 #[.slice A l.length c, .func (.func 26) #[] #[]] w fun e w' => ∃ r : Int, e = .returned (.int .i64 r) ∧ decide (0 ≤ r) = l.any lag_bad ∧ Below w.heap.size w w' := by
  have hu39 := Try.underlying39
  have HR0 := Aside0.mk hr0
  have hl : l.length ≤ 9223372036854775807 := hr0.2.1
  clear hr0 hc0
  go_enter Try.func36, Try.ntmps36
  go_wp2
  go_loopg [8] (l.length + 1) (fun kq v8 w' => ∃ i : Nat, v8 = .int .i64 (i : Int) ∧ Aside0 (kq + i = l.length + 1) ∧ Aside0 (i ≤ l.length) ∧ Aside0 ((l.take i).any lag_bad = false) ∧ Aside0 (Below w.heap.size w w'))
  case atStart => exact ⟨0, by simp, ⟨by simp⟩, ⟨by simp⟩, ⟨by simp⟩, ⟨Below.refl _ _⟩⟩
  case round =>
    obtain ⟨i, rfl, HK, HI, HT, HB⟩ := hrel
    by_cases c3 : i < l.length
    · have c3b : decide ((i : Int) < (l.length : Int)) = true := decide_eq_true (by omega)
      have p1 : 0 ≤ (i : Int) := by omega
      have q1 : (i : Int) < (l.length : Int) := by omega
      obtain ⟨ad, e1, hx0, hx1⟩ := at_T39 (Kd.C_below HR0.out HB.out) (i : Int) p1 q1
      cases e1
      rw [Int.toNat_natCast] at hx0 hx1
      have hg : rd_T39 l i = l[i] := by simp only [rd_T39, Int.toNat_natCast, List.getD_eq_getElem?_getD, List.getElem?_eq_getElem c3, Option.getD_some]
      have HG := Aside0.mk hg
      clear hg
      by_cases c4 : lag_bad (rd_T39 l i) = true
      · have C4 := Aside0.mk c4
        go_wp2_with (go_at_call 26; refine (lag_Check.cl (rd_T39 l i) _).mono ?_; rintro e w1 ⟨rfl, hb⟩; rw [C4.out]; have HB1 := Aside0.mk hb; clear hb)
        go_ret
        refine ⟨(i : Int), rfl, ?_, below_step HB.out HB1.out⟩
        have h1 : l.any lag_bad = true := by
          rw [List.any_eq_true]
          refine ⟨l[i], List.getElem_mem _, ?_⟩
          have := C4.out
          rw [HG.out] at this
          exact this
        rw [h1]
        simp
      · have C4 := Aside0.mk (Bool.eq_false_iff.2 c4)
        go_wp2_with (go_at_call 26; refine (lag_Check.cl (rd_T39 l i) _).mono ?_; rintro e w1 ⟨rfl, hb⟩; rw [C4.out]; have HB1 := Aside0.mk hb; clear hb)
        go_roundg (l.length - i)
        case measure => have := HK.out; omega
        case rel => exact ⟨i + 1, by simp, ⟨by omega⟩, ⟨by omega⟩, ⟨by rw [List.take_succ_eq_append_getElem c3, List.any_append, HT.out]; have := C4.out; rw [HG.out] at this; simp [this]⟩, ⟨below_step HB.out HB1.out⟩⟩
    · have c3b : decide ((i : Int) < (l.length : Int)) = false := decide_eq_false (by omega)
      have hi : i = l.length := by have := HI.out; omega
      have HI2 := Aside0.mk hi
      clear hi
      go_wp2
      go_ret
      refine ⟨-1, rfl, ?_, HB.out⟩
      have h1 := HT.out
      rw [HI2.out, List.take_length] at h1
      rw [h1]
      rfl

theorem lag_Check.con (A : Option Addr) (c : Nat) (l : List S39) (w : World) (hr0 : Kd.C k39 w A l.length l) (hc0 : l.length ≤ c) :
    Calls Try.prog 27 #[.slice A l.length c, .func (.func 26) #[] #[]] w fun e w' => e = .returned (.bool (l.any lag_bad)) ∧ Below w.heap.size w w' := by
  have HR0 := Aside0.mk hr0
  have HC0 := Aside0.mk hc0
  clear hr0 hc0
  go_enter Try.func27, Try.ntmps27
  go_wp2_with (go_at_call 36; refine (lag_Check.idx A c l _ HR0.out HC0.out).mono ?_; rintro e w1 ⟨r, rfl, hd, hb⟩; have HD := Aside0.mk hd; have HB1 := Aside0.mk hb; clear hb hd)
  go_ret
  have h := HD.out
  exact ⟨by simp only [← h]; rfl, HB1.out⟩
set_option maxHeartbeats 8000000 in
set_option maxRecDepth 100000 in
theorem lag_Check.calls (A0 : Option Addr) (c0 : Nat) (l0 : List (S39)) (r : Int) (w : World) (hr0 : Kd.C k39 w A0 l0.length l0) (hc0 : l0.length ≤ c0) (h : lag_Check.f l0 = some r) :
    Calls Try.prog 19 #[.slice A0 l0.length c0] w fun e w' => e = .returned (.int .i64 r) ∧ Below w.heap.size w w' := by
  have HR0 := Aside0.mk hr0
  have HC0 := Aside0.mk hc0
  have hl : l0.length ≤ 9223372036854775807 := hr0.2.1
  have H := Aside0.mk (Option.some.inj h)
  clear hr0 hc0 h
  have hm : Int.tmod (l0.length : Int) 2 = (l0.length : Int) % 2 := Int.tmod_eq_emod_of_nonneg (by omega)
  by_cases c1 : (l0.length : Int) > 511
  · have c1b : decide (511 < (l0.length : Int)) = true := decide_eq_true c1
    have C1 := Aside0.mk c1
    clear c1
    go_enter Try.func19, Try.ntmps19
    go_wp2
    go_ret
    have h := H.out
    rw [if_pos (by have := C1.out; omega)] at h
    subst h
    exact ⟨rfl, Below.refl _ _⟩
  · have c1b : decide (511 < (l0.length : Int)) = false := decide_eq_false c1
    have C1 := Aside0.mk c1
    clear c1
    by_cases c2 : (l0.length : Int) % 2 = 0
    · have c2b : ((l0.length : Int) % 2 == 0) = true := beq_iff_eq.2 c2
      have C2 := Aside0.mk c2
      clear c2 hm
      go_enter Try.func19, Try.ntmps19
      go_wp2
      go_ret
      have h := H.out
      rw [if_neg (by have := C1.out; omega), if_pos (by have := C2.out; omega)] at h
      subst h
      exact ⟨rfl, Below.refl _ _⟩
    · have c2b : ((l0.length : Int) % 2 == 0) = false := beq_eq_false_iff_ne.2 c2
      have C2 := Aside0.mk c2
      clear c2 hm
      generalize hb : l0.any lag_bad = b at H
      have HAB := Aside0.mk hb
      clear hb
      have h := H.out
      rw [if_neg (by have := C1.out; omega), if_neg (by have := C2.out; omega)] at h
      subst h
      go_enter Try.func19, Try.ntmps19
      cases b with
      | true =>
        go_wp2_with (go_at_call 27; refine (lag_Check.con A0 c0 l0 _ HR0.out HC0.out).mono ?_; rintro e w1 ⟨rfl, hb⟩; rw [HAB.out]; have HB1 := Aside0.mk hb; clear hb)
        go_ret
        exact ⟨rfl, HB1.out⟩
      | false =>
        go_wp2_with (go_at_call 27; refine (lag_Check.con A0 c0 l0 _ HR0.out HC0.out).mono ?_; rintro e w1 ⟨rfl, hb⟩; rw [HAB.out]; have HB1 := Aside0.mk hb; clear hb)
        go_ret
        exact ⟨rfl, HB1.out⟩

end Go.Proofs.Ytajdbccapandgaa.PAll
