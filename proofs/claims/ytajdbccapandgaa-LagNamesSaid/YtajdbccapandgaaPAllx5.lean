-- Written by a program of this session, after the kit's print
import Derived.Test.YtajdbccapandgaaPAllx0
import Derived.Test.YtajdbccapandgaaPAllx3
import Derived.Test.YtajdbccapandgaaPAllx4
namespace Go.Proofs.Ytajdbccapandgaa.PAll
open Go.RowKit Go.Proofs.YtajdbccapandgaaW.PrintWords Go.Proofs.YtajdbccapandgaaW.PrintLast Go.Proofs.YtajdbccapandgaaW.PrintMore
attribute [local go_sem] max2_int min2_int max_two min_two max_three min_three max_four min_four   -- for this text's walks alone
set_option linter.unusedVariables false
set_option linter.unusedSimpArgs false

/-! ### sample_Check: function 24 -/
def sample_okd (x : Int) : Bool := x == 0 || x == -3 || x == -1 || x == 1 || x == 3
def sample_Check.f (l0 : List Int) : Option Int := some (if (l0.length : Int) > 256 then 4 else if l0.all sample_okd then 0 else 8)
theorem sample_Check.digit (x : Int) : ∃ r, sample_digit.f 7 x = some r ∧ decide (r < 0) = !sample_okd x := by
  unfold sample_digit.f slices_Index_int_int.f sample_okd
  simp only [slices_Index_int_int.l0, rd, List.length_cons, List.length_nil, Int.reduceToNat, List.getD_cons_zero, List.getD_cons_succ]
  by_cases h0 : x = 0
  · subst h0; exact ⟨0, by simp, by simp⟩
  by_cases h1 : x = -3
  · subst h1; exact ⟨1, by simp [wrap64], by simp⟩
  by_cases h2 : x = -1
  · subst h2; exact ⟨2, by simp [wrap64], by simp⟩
  by_cases h3 : x = 1
  · subst h3; exact ⟨3, by simp [wrap64], by simp⟩
  by_cases h4 : x = 3
  · subst h4; exact ⟨4, by simp [wrap64], by simp⟩
  exact ⟨-1, by simp [wrap64, h0, h1, h2, h3, h4], by simp [h0, h1, h2, h3, h4]⟩

theorem sample_Check.cl (x : Int) (w : World) :
    Calls Try.prog 33 #[.int .i64 x] w fun e w' => e = .returned (.bool (!sample_okd x)) ∧ Below w.heap.size w w' := by
  obtain ⟨r, hr, hd⟩ := sample_Check.digit x
  have HR := Aside0.mk hr
  have HD := Aside0.mk hd
  clear hr hd
  go_enter Try.func33, Try.ntmps33
  go_wp2_with (go_at_call 34; refine (sample_digit.calls 7 x r _ HR.out).mono ?_; rintro e w1 ⟨rfl, hb⟩; have HB := Aside0.mk hb; clear hb)
  go_ret
  have h := HD.out
  exact ⟨by simp only [← h]; rfl, HB.out⟩

theorem sample_Check.idx (A : Option Addr) (c : Nat) (l : List Int) (w : World) (hr0 : Kd.C (Kd.int .i64) w A l.length l) (hc0 : l.length ≤ c) :
    Calls Try.prog 37 #[.slice A l.length c, .func (.func 33) #[] #[]] w fun e w' => ∃ r : Int, e = .returned (.int .i64 r) ∧ decide (0 ≤ r) = !(l.all sample_okd) ∧ Below w.heap.size w w' := by
  have HR0 := Aside0.mk hr0
  have hl : l.length ≤ 9223372036854775807 := hr0.2.1
  clear hr0 hc0
  go_enter Try.func37, Try.ntmps37
  go_wp2
  go_loopg [8] (l.length + 1) (fun kq v8 w' => ∃ i : Nat, v8 = .int .i64 (i : Int) ∧ Aside0 (kq + i = l.length + 1) ∧ Aside0 (i ≤ l.length) ∧ Aside0 ((l.take i).all sample_okd = true) ∧ Aside0 (Below w.heap.size w w'))
  case atStart => exact ⟨0, by simp, ⟨by simp⟩, ⟨by simp⟩, ⟨by simp⟩, ⟨Below.refl _ _⟩⟩
  case round =>
    obtain ⟨i, rfl, HK, HI, HT, HB⟩ := hrel
    by_cases c3 : i < l.length
    · have c3b : decide ((i : Int) < (l.length : Int)) = true := decide_eq_true (by omega)
      have p1 : 0 ≤ (i : Int) := by omega
      have q1 : (i : Int) < (l.length : Int) := by omega
      obtain ⟨ad, e1, hx⟩ := Kd.at_int (Kd.C_below HR0.out HB.out) (i : Int) p1 q1
      cases e1
      rw [Int.toNat_natCast] at hx
      by_cases c4 : sample_okd (rd l i) = true
      · have C4 := Aside0.mk c4
        go_wp2_with (go_at_call 33; refine (sample_Check.cl (rd l i) _).mono ?_; rintro e w1 ⟨rfl, hb⟩; rw [C4.out]; have HB1 := Aside0.mk hb; clear hb)
        go_roundg (l.length - i)
        case measure => have := HK.out; omega
        case rel => exact ⟨i + 1, by simp, ⟨by omega⟩, ⟨by omega⟩, ⟨by rw [List.take_succ_eq_append_getElem c3, List.all_append, HT.out]; have := C4.out; simp only [rd, Int.toNat_natCast, List.getD_eq_getElem?_getD, List.getElem?_eq_getElem c3, Option.getD_some] at this; simp [this]⟩, ⟨below_step HB.out HB1.out⟩⟩
      · have C4 := Aside0.mk (Bool.eq_false_iff.2 c4)
        go_wp2_with (go_at_call 33; refine (sample_Check.cl (rd l i) _).mono ?_; rintro e w1 ⟨rfl, hb⟩; rw [C4.out]; have HB1 := Aside0.mk hb; clear hb)
        go_ret
        refine ⟨(i : Int), rfl, ?_, below_step HB.out HB1.out⟩
        have h1 : l.all sample_okd = false := by
          rw [List.all_eq_false]
          refine ⟨l[i], List.getElem_mem _, ?_⟩
          have := C4.out
          simp only [rd, Int.toNat_natCast, List.getD_eq_getElem?_getD, List.getElem?_eq_getElem c3, Option.getD_some] at this
          simp [this]
        rw [h1]
        simp
    · have c3b : decide ((i : Int) < (l.length : Int)) = false := decide_eq_false (by omega)
      have hi : i = l.length := by have := HI.out; omega
      have HI2 := Aside0.mk hi
      clear hi
      go_wp2
      go_ret
      refine ⟨-1, rfl, ?_, HB.out⟩
      have h1 := HT.out
      rw [HI2.out, List.take_length] at h1
      rw [h1]
      rfl

theorem sample_Check.con (A : Option Addr) (c : Nat) (l : List Int) (w : World) (hr0 : Kd.C (Kd.int .i64) w A l.length l) (hc0 : l.length ≤ c) :
    Calls Try.prog 32 #[.slice A l.length c, .func (.func 33) #[] #[]] w fun e w' => e = .returned (.bool (!(l.all sample_okd))) ∧ Below w.heap.size w w' := by
  have HR0 := Aside0.mk hr0
  have HC0 := Aside0.mk hc0
  clear hr0 hc0
  go_enter Try.func32, Try.ntmps32
  go_wp2_with (go_at_call 37; refine (sample_Check.idx A c l _ HR0.out HC0.out).mono ?_; rintro e w1 ⟨r, rfl, hd, hb⟩; have HD := Aside0.mk hd; have HB1 := Aside0.mk hb; clear hb hd)
  go_ret
  have h := HD.out
  exact ⟨by simp only [← h]; rfl, HB1.out⟩
set_option maxHeartbeats 8000000 in
set_option maxRecDepth 100000 in
theorem sample_Check.calls (A0 : Option Addr) (c0 : Nat) (l0 : List Int) (r : Int) (w : World) (hr0 : Kd.C (Kd.int .i64) w A0 l0.length l0) (hc0 : l0.length ≤ c0) (h : sample_Check.f l0 = some r) :
    Calls Try.prog 24 #[.slice A0 l0.length c0] w fun e w' => e = .returned (.int .i64 r) ∧ Below w.heap.size w w' := by
  have HR0 := Aside0.mk hr0
  have HC0 := Aside0.mk hc0
  have H := Aside0.mk (Option.some.inj h)
  clear hr0 hc0 h
  by_cases c1 : (l0.length : Int) > 256
  · have c1b : decide (256 < (l0.length : Int)) = true := decide_eq_true c1
    have C1 := Aside0.mk c1
    clear c1
    go_enter Try.func24, Try.ntmps24
    go_wp2
    go_ret
    have h := H.out
    rw [if_pos C1.out] at h
    subst h
    exact ⟨rfl, Below.refl _ _⟩
  · have c1b : decide (256 < (l0.length : Int)) = false := decide_eq_false c1
    have C1 := Aside0.mk c1
    clear c1
    go_enter Try.func24, Try.ntmps24
    generalize hb : l0.all sample_okd = b at H
    have HAB := Aside0.mk hb
    clear hb
    cases b with
    | true =>
      go_wp2_with (go_at_call 32; refine (sample_Check.con A0 c0 l0 _ HR0.out HC0.out).mono ?_; rintro e w1 ⟨rfl, hb⟩; rw [HAB.out]; have HB1 := Aside0.mk hb; clear hb)
      go_ret
      have h := H.out
      rw [if_neg (by have := C1.out; omega)] at h
      simp at h
      subst h
      exact ⟨rfl, HB1.out⟩
    | false =>
      go_wp2_with (go_at_call 32; refine (sample_Check.con A0 c0 l0 _ HR0.out HC0.out).mono ?_; rintro e w1 ⟨rfl, hb⟩; rw [HAB.out]; have HB1 := Aside0.mk hb; clear hb)
      go_ret
      have h := H.out
      rw [if_neg (by have := C1.out; omega)] at h
      simp at h
      subst h
      exact ⟨rfl, HB1.out⟩

end Go.Proofs.Ytajdbccapandgaa.PAll
