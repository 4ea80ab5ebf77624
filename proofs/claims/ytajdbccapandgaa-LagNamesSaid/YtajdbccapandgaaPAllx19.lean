-- Written by a program of this session, after the kit's print
import Derived.Test.YtajdbccapandgaaPAllx0
import Derived.Test.YtajdbccapandgaaPAllx18
namespace Go.Proofs.Ytajdbccapandgaa.PAll
open Go.RowKit Go.Proofs.YtajdbccapandgaaW.PrintWords Go.Proofs.YtajdbccapandgaaW.PrintLast Go.Proofs.YtajdbccapandgaaW.PrintMore
attribute [local go_sem] max2_int min2_int max_two min_two max_three min_three max_four min_four   -- for this text's walks alone
set_option linter.unusedVariables false
set_option linter.unusedSimpArgs false

/-! ### lag_Peak_1_with_fringe_lag_Peak_1: function 56 -/
def lag_some (x : S39) : Bool := decide (x.f1 > 0)
def lag_Peak_1_with_fringe_lag_Peak_1.f (l0 : List S39) : Option Bool := some (l0.any lag_some)

theorem lag_some.cl (x : S39) (w : World) :
    Calls Try.prog 31 #[.agg #[.int .i64 x.f0, .int .i64 x.f1]] w fun e w' => e = .returned (.bool (lag_some x)) ∧ Below w.heap.size w w' := lag_Peak_1.calls x.f0 x.f1 _ w rfl

theorem lag_some.idx (A : Option Addr) (c : Nat) (l : List S39) (w : World) (hr0 : Kd.C k39 w A l.length l) (hc0 : l.length ≤ c) :
    Calls Try.prog 36 #[.slice A l.length c, .func (.func 31) #[] #[]] w fun e w' => ∃ r : Int, e = .returned (.int .i64 r) ∧ decide (0 ≤ r) = l.any lag_some ∧ Below w.heap.size w w' := by
  have hu39 := Try.underlying39
  have HR0 := Aside0.mk hr0
  have hl : l.length ≤ 9223372036854775807 := hr0.2.1
  clear hr0 hc0
  go_enter Try.func36, Try.ntmps36
  go_wp2
  go_loopg [8] (l.length + 1) (fun kq v8 w' => ∃ i : Nat, v8 = .int .i64 (i : Int) ∧ Aside0 (kq + i = l.length + 1) ∧ Aside0 (i ≤ l.length) ∧ Aside0 ((l.take i).any lag_some = false) ∧ Aside0 (Below w.heap.size w w'))
  case atStart => exact ⟨0, by simp, ⟨by simp⟩, ⟨by simp⟩, ⟨by simp⟩, ⟨Below.refl _ _⟩⟩
  case round =>
    obtain ⟨i, rfl, HK, HI, HT, HB⟩ := hrel
    by_cases c3 : i < l.length
    · have c3b : decide ((i : Int) < (l.length : Int)) = true := decide_eq_true (by omega)
      have p1 : 0 ≤ (i : Int) := by omega
      have q1 : (i : Int) < (l.length : Int) := by omega
      obtain ⟨ad, e1, hx0, hx1⟩ := at_T39 (Kd.C_below HR0.out HB.out) (i : Int) p1 q1
      cases e1
      rw [Int.toNat_natCast] at hx0 hx1
      have hg : rd_T39 l i = l[i] := by simp only [rd_T39, Int.toNat_natCast, List.getD_eq_getElem?_getD, List.getElem?_eq_getElem c3, Option.getD_some]
      have HG := Aside0.mk hg
      clear hg
      by_cases c4 : lag_some (rd_T39 l i) = true
      · have C4 := Aside0.mk c4
        go_wp2_with (go_at_call 31; refine (lag_some.cl (rd_T39 l i) _).mono ?_; rintro e w1 ⟨rfl, hb⟩; rw [C4.out]; have HB1 := Aside0.mk hb; clear hb)
        go_ret
        refine ⟨(i : Int), rfl, ?_, below_step HB.out HB1.out⟩
        have h1 : l.any lag_some = true := by
          rw [List.any_eq_true]
          refine ⟨l[i], List.getElem_mem _, ?_⟩
          have := C4.out
          rw [HG.out] at this
          exact this
        rw [h1]
        simp
      · have C4 := Aside0.mk (Bool.eq_false_iff.2 c4)
        go_wp2_with (go_at_call 31; refine (lag_some.cl (rd_T39 l i) _).mono ?_; rintro e w1 ⟨rfl, hb⟩; rw [C4.out]; have HB1 := Aside0.mk hb; clear hb)
        go_roundg (l.length - i)
        case measure => have := HK.out; omega
        case rel => exact ⟨i + 1, by simp, ⟨by omega⟩, ⟨by omega⟩, ⟨by rw [List.take_succ_eq_append_getElem c3, List.any_append, HT.out]; have := C4.out; rw [HG.out] at this; simp [this]⟩, ⟨below_step HB.out HB1.out⟩⟩
    · have c3b : decide ((i : Int) < (l.length : Int)) = false := decide_eq_false (by omega)
      have hi : i = l.length := by have := HI.out; omega
      have HI2 := Aside0.mk hi
      clear hi
      go_wp2
      go_ret
      refine ⟨-1, rfl, ?_, HB.out⟩
      have h1 := HT.out
      rw [HI2.out, List.take_length] at h1
      rw [h1]
      rfl

theorem lag_some.con (A : Option Addr) (c : Nat) (l : List S39) (w : World) (hr0 : Kd.C k39 w A l.length l) (hc0 : l.length ≤ c) :
    Calls Try.prog 27 #[.slice A l.length c, .func (.func 31) #[] #[]] w fun e w' => e = .returned (.bool (l.any lag_some)) ∧ Below w.heap.size w w' := by
  have HR0 := Aside0.mk hr0
  have HC0 := Aside0.mk hc0
  clear hr0 hc0
  go_enter Try.func27, Try.ntmps27
  go_wp2_with (go_at_call 36; refine (lag_some.idx A c l _ HR0.out HC0.out).mono ?_; rintro e w1 ⟨r, rfl, hd, hb⟩; have HD := Aside0.mk hd; have HB1 := Aside0.mk hb; clear hb hd)
  go_ret
  have h := HD.out
  exact ⟨by simp only [← h]; rfl, HB1.out⟩
set_option maxHeartbeats 8000000 in
set_option maxRecDepth 100000 in
theorem lag_Peak_1_with_fringe_lag_Peak_1.calls (A0 : Option Addr) (c0 : Nat) (l0 : List (S39)) (r : Bool) (w : World) (hr0 : Kd.C k39 w A0 l0.length l0) (hc0 : l0.length ≤ c0) (h : lag_Peak_1_with_fringe_lag_Peak_1.f l0 = some r) :
    Calls Try.prog 27 #[.slice A0 l0.length c0, .func (.func 31) #[] #[]] w fun e w' => e = .returned (.bool r) ∧ Below w.heap.size w w' := by
  obtain rfl := Option.some.inj h
  exact (lag_some.con A0 c0 l0 w hr0 hc0).mono fun e w' hh => hh

end Go.Proofs.Ytajdbccapandgaa.PAll
