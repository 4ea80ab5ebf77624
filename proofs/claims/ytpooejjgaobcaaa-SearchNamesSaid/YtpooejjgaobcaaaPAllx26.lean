-- Written by a program of this session, after the kit's print
import Derived.Test.YtpooejjgaobcaaaPAllx0
import Derived.Test.YtpooejjgaobcaaaPAllx24
namespace Go.Proofs.Ytpooejjgaobcaaa.PAll
open Go.RowKit Go.Proofs.YtpooejjgaobcaaaW.PrintWords Go.Proofs.YtpooejjgaobcaaaW.PrintLast Go.Proofs.YtpooejjgaobcaaaW.PrintMore
attribute [local go_sem] max2_int min2_int max_two min_two max_three min_three max_four min_four   -- for this text's walks alone
set_option linter.unusedVariables false
set_option linter.unusedSimpArgs false

/-! ### search_Best: function 21 -/
def search_aft (c b : S32) : Bool := if c.f3 = b.f3 then (if wrap64 (c.f0 * c.f0) = wrap64 (b.f0 * b.f0) then (if c.f0 = b.f0 then decide (c.f1 < b.f1) else decide (c.f0 < b.f0)) else decide (wrap64 (c.f0 * c.f0) < wrap64 (b.f0 * b.f0))) else decide (b.f3 < c.f3)

set_option maxHeartbeats 2000000 in
theorem search_aft.calls (c b : S32) (p : Nat) (w : World) (hb : w.heap[p]? = some (.cells #[.int .i64 b.f0, .int .i64 b.f1, .int .i64 b.f2.f0, .int .i64 b.f2.f1, .int .i64 b.f3] 71 (0, 0))) :
    Calls Try.prog 35 #[.pointer (some ⟨p, 0, none⟩), .agg #[.int .i64 c.f0, .int .i64 c.f1, .int .i64 c.f2.f0, .int .i64 c.f2.f1, .int .i64 c.f3]] w fun e w' => e = .returned (.bool (search_aft c b)) ∧ Below w.heap.size w w' := by
  have hu71 := Try.underlying71
  have hu32 := Try.underlying32
  obtain ⟨c0, c1, ⟨c2, c3⟩, c4⟩ := c
  obtain ⟨b0, b1, ⟨b2, b3⟩, b4⟩ := b
  dsimp only at hb ⊢
  have hl := blk_lt hb
  have v0 : ∀ o n, ((w.alloc o).drewN n).cell? ⟨p, 0, none⟩ = some (.int .i64 b0) := fun o n => pw_cell_below (pw_below_drewN (below_alloc (Below.refl _ _) o) n) ((blk_cell hb 0).trans rfl)
  have v1 : ∀ o n, ((w.alloc o).drewN n).cell? ⟨p, 1, none⟩ = some (.int .i64 b1) := fun o n => pw_cell_below (pw_below_drewN (below_alloc (Below.refl _ _) o) n) ((blk_cell hb 1).trans rfl)
  have v4 : ∀ o n, ((w.alloc o).drewN n).cell? ⟨p, 4, none⟩ = some (.int .i64 b4) := fun o n => pw_cell_below (pw_below_drewN (below_alloc (Below.refl _ _) o) n) ((blk_cell hb 4).trans rfl)
  clear hb
  by_cases h1 : c4 = b4
  · have e1 : (c4 == b4) = true := beq_iff_eq.2 h1
    have e2 : (c4 != b4) = false := bne_eq_false_iff_eq.2 h1
    by_cases h2 : wrap64 (c0 * c0) = wrap64 (b0 * b0)
    · have e3 : (wrap64 (c0 * c0) == wrap64 (b0 * b0)) = true := beq_iff_eq.2 h2
      have e4 : (wrap64 (c0 * c0) != wrap64 (b0 * b0)) = false := bne_eq_false_iff_eq.2 h2
      by_cases h3 : c0 = b0
      · have e5 : (c0 == b0) = true := beq_iff_eq.2 h3
        have e6 : (c0 != b0) = false := bne_eq_false_iff_eq.2 h3
        have hs : search_aft ⟨c0, c1, ⟨c2, c3⟩, c4⟩ ⟨b0, b1, ⟨b2, b3⟩, b4⟩ = decide (c1 < b1) := by unfold search_aft; rw [if_pos h1, if_pos h2, if_pos h3]
        clear h1 h2 h3
        have HS := Aside0.mk hs
        clear hs
        rw [HS.out]
        go_enter Try.func35, Try.ntmps35
        go_wp2
        go_quiet (fail)
        go_wp2
        go_quiet (fail)
        go_wp2
        go_quiet (fail)
        go_wp2
        go_quiet (fail)
        go_wp2
        go_ret
        exact ⟨rfl, by repeat (first | exact below_alloc (Below.refl _ _) _ | apply pw_below_drewN)⟩
      · have e5 : (c0 == b0) = false := beq_eq_false_iff_ne.2 h3
        have e6 : (c0 != b0) = true := bne_iff_ne.2 h3
        have hs : search_aft ⟨c0, c1, ⟨c2, c3⟩, c4⟩ ⟨b0, b1, ⟨b2, b3⟩, b4⟩ = decide (c0 < b0) := by unfold search_aft; rw [if_pos h1, if_pos h2, if_neg h3]
        clear h1 h2 h3
        have HS := Aside0.mk hs
        clear hs
        rw [HS.out]
        go_enter Try.func35, Try.ntmps35
        go_wp2
        go_quiet (fail)
        go_wp2
        go_quiet (fail)
        go_wp2
        go_quiet (fail)
        go_wp2
        go_quiet (fail)
        go_wp2
        go_ret
        exact ⟨rfl, by repeat (first | exact below_alloc (Below.refl _ _) _ | apply pw_below_drewN)⟩
    · have e3 : (wrap64 (c0 * c0) == wrap64 (b0 * b0)) = false := beq_eq_false_iff_ne.2 h2
      have e4 : (wrap64 (c0 * c0) != wrap64 (b0 * b0)) = true := bne_iff_ne.2 h2
      have hs : search_aft ⟨c0, c1, ⟨c2, c3⟩, c4⟩ ⟨b0, b1, ⟨b2, b3⟩, b4⟩ = decide (wrap64 (c0 * c0) < wrap64 (b0 * b0)) := by unfold search_aft; rw [if_pos h1, if_neg h2]
      clear h1 h2
      have HS := Aside0.mk hs
      clear hs
      rw [HS.out]
      go_enter Try.func35, Try.ntmps35
      go_wp2
      go_quiet (fail)
      go_wp2
      go_quiet (fail)
      go_wp2
      go_ret
      exact ⟨rfl, by repeat (first | exact below_alloc (Below.refl _ _) _ | apply pw_below_drewN)⟩
  · have e1 : (c4 == b4) = false := beq_eq_false_iff_ne.2 h1
    have e2 : (c4 != b4) = true := bne_iff_ne.2 h1
    have hs : search_aft ⟨c0, c1, ⟨c2, c3⟩, c4⟩ ⟨b0, b1, ⟨b2, b3⟩, b4⟩ = decide (b4 < c4) := if_neg h1
    clear h1
    have HS := Aside0.mk hs
    clear hs
    rw [HS.out]
    go_enter Try.func35, Try.ntmps35
    go_wp2
    go_quiet (fail)
    go_wp2
    go_quiet (fail)
    go_wp2
    go_ret
    exact ⟨rfl, by repeat (first | exact below_alloc (Below.refl _ _) _ | apply pw_below_drewN)⟩
def search_bst (b : S32) (l : List S32) : S32 := l.foldl (fun b c => if search_aft c b then c else b) b
def search_Best.f (k : Nat) (l0 l1 : List Int) (a2 a3 : Int) : Option (Int × Int × Int × Int × Int × Int) :=
  (search_Grid.f k l0 l1 a2 a3).bind fun g => if g.2 = 0 then (match g.1 with
    | [] => none
    | x :: t => if (search_bst x (x :: t)).f3 = 0 then some (0, 0, 0, 0, 0, 18) else some ((search_bst x (x :: t)).f0, (search_bst x (x :: t)).f1, (search_bst x (x :: t)).f2.f0, (search_bst x (x :: t)).f2.f1, (search_bst x (x :: t)).f3, 0)) else some (0, 0, 0, 0, 0, g.2)
theorem search_Best.mono : ∀ a0 a1 a2 a3 k, LeO (search_Best.f k a0 a1 a2 a3) (search_Best.f (k + 1) a0 a1 a2 a3) := by
  intro a0 a1 a2 a3 k
  unfold search_Best.f
  exact LeO.bind (search_Grid.mono _ _ _ _ _) (fun _ => LeO.refl _)
set_option maxHeartbeats 8000000 in
set_option maxRecDepth 100000 in
theorem search_Best.calls (k : Nat) (A0 : Option Addr) (c0 : Nat) (l0 : List Int) (A1 : Option Addr) (c1 : Nat) (l1 : List Int) (a2 : Int) (a3 : Int) (r1 : Int) (r2 : Int) (r3 : Int) (r4 : Int) (r5 : Int) (r6 : Int) (w : World) (hr0 : Kd.C (Kd.int .i64) w A0 l0.length l0) (hc0 : l0.length ≤ c0) (hr1 : Kd.C (Kd.int .i64) w A1 l1.length l1) (hc1 : l1.length ≤ c1) (h : search_Best.f k l0 l1 a2 a3 = some (r1, r2, r3, r4, r5, r6)) :
    Calls Try.prog 21 #[.slice A0 l0.length c0, .slice A1 l1.length c1, .int .i64 a2, .int .i64 a3] w fun e w' => e = .returned (.tuple #[.agg #[.int .i64 r1, .int .i64 r2, .int .i64 r3, .int .i64 r4, .int .i64 r5], .int .i64 r6]) ∧ Below w.heap.size w w' := by
  have hu32 := Try.underlying32
  have hu71 := Try.underlying71
  have hmf : ∀ (fn : Fn) (first cap : Array Value) (w : World), (Instr.makeFunc fn first cap).run Try.prog w = .ok (.func fn first cap) w := fun _ _ _ _ => rfl
  unfold search_Best.f at h
  obtain ⟨⟨g, ge⟩, hg, h⟩ := Option.bind_eq_some_iff.1 h
  have HG := Aside0.mk hg
  have HR0 := Aside0.mk (Kd.C_below hr0 (below_alloc (Below.refl _ _) (.cells #[.int .i64 0, .int .i64 0, .int .i64 0, .int .i64 0, .int .i64 0] 32)))
  have HR1 := Aside0.mk (Kd.C_below hr1 (below_alloc (Below.refl _ _) (.cells #[.int .i64 0, .int .i64 0, .int .i64 0, .int .i64 0, .int .i64 0] 32)))
  have HC0 := Aside0.mk hc0
  have HC1 := Aside0.mk hc1
  clear hg hr0 hr1 hc0 hc1
  have hbn : (w.alloc (.cells #[.int .i64 0, .int .i64 0, .int .i64 0, .int .i64 0, .int .i64 0] 32)).heap[w.heap.size]? = some (.cells #[.int .i64 0, .int .i64 0, .int .i64 0, .int .i64 0, .int .i64 0] 32 (0, 0)) := blk_new _ _
  have HN := Aside0.mk hbn
  clear hbn
  by_cases c3 : ge = 0
  · subst c3
    have h' := h
    rw [if_pos rfl] at h'
    cases g with
    | nil => cases h'
    | cons x t =>
      have H := Aside0.mk h'
      clear h h'
      go_enter Try.func21, Try.ntmps21
      go_wp2_with (go_at_call 19; refine (search_Grid.calls k A0 c0 l0 A1 c1 l1 a2 a3 (x :: t) 0 _ HR0.out HC0.out HR1.out HC1.out HG.out).mono ?_; rintro e w1 ⟨v, rfl, ho, hb⟩; obtain ⟨gb, cp, e_, hgb, hgl, _⟩ := Kd.R_form ho (by simp); subst e_; have HB := Aside0.mk (below_step (below_alloc (Below.refl w.heap.size w) _) hb); have HN1 := Aside0.mk (blk_below HN.out hb); have HO := Aside0.mk ho; obtain ⟨ad, ea, hx0, hx1, hx2, hx3, hx4⟩ := at_T32 (Kd.R_reads' ho).2.2 0 (by omega) (by simp); cases ea; simp only [rd_T32, Int.toNat_zero, List.getD_cons_zero, Nat.zero_mul, add_plain, Nat.zero_add] at hx0 hx1 hx2 hx3 hx4; clear ho hb)
      go_loopg [36] (t.length + 2) (fun kq v36 w' => ∃ (i : Nat) (b : S32), v36 = .int .i64 (i : Int) ∧ Aside0 (kq + i = t.length + 2) ∧ Aside0 (i ≤ t.length + 1) ∧ Aside0 (b = search_bst x ((x :: t).take i)) ∧ Aside0 (w'.heap[w.heap.size]? = some (.cells #[.int .i64 0, .int .i64 0, .int .i64 0, .int .i64 0, .int .i64 0] 32 (0, 0))) ∧ Aside0 (w'.heap[w1.heap.size]? = some (.cells #[.int .i64 (b).f0, .int .i64 (b).f1, .int .i64 (b).f2.f0, .int .i64 (b).f2.f1, .int .i64 (b).f3] 71 (0, 0))) ∧ Aside0 (Kd.R k32 32 w' (w.heap.size + 1) (fun k => True ∧ k ≠ w1.heap.size) (.slice (some ⟨gb, 0, none⟩) (t.length + 1) cp) (x :: t)) ∧ Aside0 (Below w.heap.size w w'))
      case atStart => exact ⟨0, x, by simp, ⟨by omega⟩, ⟨by omega⟩, ⟨rfl⟩, ⟨blk_alloc HN1.out _⟩, ⟨blk_new _ _⟩, ⟨Kd.R_alloc (Kd.R_elderB (by simpa using HO.out) w1.heap.size (Nat.le_refl _)) _⟩, ⟨below_alloc HB.out _⟩⟩
      case round =>
        have hww : w.heap.size < w1.heap.size := blk_lt HN1.out
        clear HN HG HR0 HR1 HC0 HC1 HO HB HN1 hx0 hx1 hx2 hx3 hx4 hgb
        obtain ⟨i, b, rfl, HK, HI, HBB, HZ, HBK, HR, HB⟩ := hrel
        by_cases c3 : i < t.length + 1
        · have c3b : decide ((i : Int) < (t.length : Int) + 1) = true := decide_eq_true (by omega)
          have p1 : 0 ≤ (i : Int) := by omega
          have q1 : (i : Int) < (t.length : Int) + 1 := by omega
          obtain ⟨c, hc⟩ : ∃ c, c = rd_T32 (x :: t) (i : Int) := ⟨_, rfl⟩
          obtain ⟨ad2, ea, hy0, hy1, hy2, hy3, hy4⟩ := at_T32 (Kd.R_reads' HR.out).2.2 (i : Int) p1 (by simp; omega)
          cases ea
          rw [← hc] at hy0 hy1 hy2 hy3 hy4
          simp only [Int.toNat_natCast, add_plain, Nat.zero_add] at hy0 hy1 hy2 hy3 hy4
          have HCC := Aside0.mk hc
          clear hc
          have hci : c = (x :: t)[i] := by rw [HCC.out]; simp [rd_T32, List.getD_eq_getElem?_getD, List.getElem?_eq_getElem (show i < (x :: t).length by simp; omega)]
          by_cases c4 : search_aft c b = true
          · have C4 := Aside0.mk c4
            have HCI := Aside0.mk hci
            clear c4 hci
            go_wp2_with (go_at_call 35; refine (search_aft.calls c b w1.heap.size _ HBK.out).mono ?_; rintro e w2 ⟨rfl, hb⟩; rw [C4.out]; have HZ2 := Aside0.mk (blk_below HZ.out hb); have HBK2 := Aside0.mk (blk_below HBK.out hb); have HR2 := Aside0.mk (Kd.R_below HR.out hb); have HB2 := Aside0.mk (below_step HB.out hb); have k0 := pw_cell_below hb hy0; have k1 := pw_cell_below hb hy1; have k2 := pw_cell_below hb hy2; have k3 := pw_cell_below hb hy3; have k4 := pw_cell_below hb hy4; have fz : ∀ j, w2.frozen? ⟨w1.heap.size, j, none⟩ = false := fun j => blk_frozen HBK2.out j; have z0 : w2.cell? ⟨w1.heap.size, 0, none⟩ = some (.int .i64 b.f0) := (blk_cell HBK2.out 0).trans rfl; have z1 : w2.cell? ⟨w1.heap.size, 1, none⟩ = some (.int .i64 b.f1) := (blk_cell HBK2.out 1).trans rfl; have z2 : w2.cell? ⟨w1.heap.size, 2, none⟩ = some (.int .i64 b.f2.f0) := (blk_cell HBK2.out 2).trans rfl; have z3 : w2.cell? ⟨w1.heap.size, 3, none⟩ = some (.int .i64 b.f2.f1) := (blk_cell HBK2.out 3).trans rfl; have z4 : w2.cell? ⟨w1.heap.size, 4, none⟩ = some (.int .i64 b.f3) := (blk_cell HBK2.out 4).trans rfl; clear hb)
            go_roundg (t.length + 1 - i)
            case measure => have := HK.out; omega
            case rel =>
              refine ⟨i + 1, c, by have hm := (Kd.R_reads' HR2.out).2.2.2.1; simp at hm; simp; unfold wrap64; omega, ⟨by omega⟩, ⟨by omega⟩, ⟨?_⟩, ⟨blk_far (blk_far (blk_far (blk_far (blk_far HZ2.out (by simp; omega) _) (by simp; omega) _) (by simp; omega) _) (by simp; omega) _) (by simp; omega) _⟩, ⟨blk_put (blk_put (blk_put (blk_put (blk_put HBK2.out 0 _ rfl) 1 _ rfl) 2 _ rfl) 3 _ rfl) 4 _ rfl⟩, ⟨Kd.R_far (Kd.R_far (Kd.R_far (Kd.R_far (Kd.R_far HR2.out (fun k hk => hk.2) _) (fun k hk => hk.2) _) (fun k hk => hk.2) _) (fun k hk => hk.2) _) (fun k hk => hk.2) _⟩, ⟨below_set (below_set (below_set (below_set (below_set HB2.out (by omega)) (by omega)) (by omega)) (by omega)) (by omega)⟩⟩
              rw [List.take_succ_eq_append_getElem (show i < (x :: t).length by simp; omega), ← HCI.out]
              unfold search_bst
              rw [List.foldl_append]
              have hbb := HBB.out
              unfold search_bst at hbb
              simp [← hbb, C4.out]
          · have C4 := Aside0.mk (Bool.eq_false_iff.2 c4)
            have HCI := Aside0.mk hci
            clear c4 hci
            go_wp2_with (go_at_call 35; refine (search_aft.calls c b w1.heap.size _ HBK.out).mono ?_; rintro e w2 ⟨rfl, hb⟩; rw [C4.out]; have HZ2 := Aside0.mk (blk_below HZ.out hb); have HBK2 := Aside0.mk (blk_below HBK.out hb); have HR2 := Aside0.mk (Kd.R_below HR.out hb); have HB2 := Aside0.mk (below_step HB.out hb); clear hb)
            go_roundg (t.length + 1 - i)
            case measure => have := HK.out; omega
            case rel =>
              refine ⟨i + 1, b, by have hm := (Kd.R_reads' HR2.out).2.2.2.1; simp at hm; simp; unfold wrap64; omega, ⟨by omega⟩, ⟨by omega⟩, ⟨?_⟩, HZ2, HBK2, HR2, HB2⟩
              rw [List.take_succ_eq_append_getElem (show i < (x :: t).length by simp; omega), ← HCI.out]
              have hbb := HBB.out
              unfold search_bst at hbb ⊢
              rw [List.foldl_append]
              simp [← hbb, C4.out]
        · have c3b : decide ((i : Int) < (t.length : Int) + 1) = false := decide_eq_false (by omega)
          have hi : b = search_bst x (x :: t) := by rw [HBB.out, List.take_of_length_le (by simp; have := HI.out; omega)]
          have h := H.out
          rw [← hi] at h
          have fz : ∀ j, wr.frozen? ⟨w.heap.size, j, none⟩ = false := fun j => blk_frozen HZ.out j
          have z0 : wr.cell? ⟨w.heap.size, 0, none⟩ = some (.int .i64 0) := (blk_cell HZ.out 0).trans rfl
          have z1 : wr.cell? ⟨w.heap.size, 1, none⟩ = some (.int .i64 0) := (blk_cell HZ.out 1).trans rfl
          have z2 : wr.cell? ⟨w.heap.size, 2, none⟩ = some (.int .i64 0) := (blk_cell HZ.out 2).trans rfl
          have z3 : wr.cell? ⟨w.heap.size, 3, none⟩ = some (.int .i64 0) := (blk_cell HZ.out 3).trans rfl
          have z4 : wr.cell? ⟨w.heap.size, 4, none⟩ = some (.int .i64 0) := (blk_cell HZ.out 4).trans rfl
          have y0 : wr.cell? ⟨w1.heap.size, 0, none⟩ = some (.int .i64 b.f0) := (blk_cell HBK.out 0).trans rfl
          have y1 : wr.cell? ⟨w1.heap.size, 1, none⟩ = some (.int .i64 b.f1) := (blk_cell HBK.out 1).trans rfl
          have y2 : wr.cell? ⟨w1.heap.size, 2, none⟩ = some (.int .i64 b.f2.f0) := (blk_cell HBK.out 2).trans rfl
          have y3 : wr.cell? ⟨w1.heap.size, 3, none⟩ = some (.int .i64 b.f2.f1) := (blk_cell HBK.out 3).trans rfl
          have y4 : wr.cell? ⟨w1.heap.size, 4, none⟩ = some (.int .i64 b.f3) := (blk_cell HBK.out 4).trans rfl
          clear hi
          by_cases c5 : b.f3 = 0
          · rw [if_pos c5] at h
            have e5 : (b.f3 == 0) = true := beq_iff_eq.2 c5
            clear c5 H
            simp only [Option.some.injEq, Prod.mk.injEq] at h
            obtain ⟨rfl, rfl, rfl, rfl, rfl, rfl⟩ := h
            go_wp2
            refine bodyPost_ret (results_ct rfl _ _ w.heap.size 32 #[.int .i64 0, .int .i64 0, .int .i64 0, .int .i64 0, .int .i64 0] (0, 0) _ rfl (blk_put (blk_put (blk_put (blk_put (blk_put HZ.out 0 _ rfl) 1 _ rfl) 2 _ rfl) 3 _ rfl) 4 _ rfl) Try.underlying32 rfl (by kernel_rfl)) rfl ?_
            exact ⟨rfl, below_set (below_set (below_set (below_set (below_set HB.out (by omega)) (by omega)) (by omega)) (by omega)) (by omega)⟩
          · rw [if_neg c5] at h
            have e5 : (b.f3 == 0) = false := beq_eq_false_iff_ne.2 c5
            clear c5 H
            simp only [Option.some.injEq, Prod.mk.injEq] at h
            obtain ⟨rfl, rfl, rfl, rfl, rfl, rfl⟩ := h
            go_wp2
            refine bodyPost_ret (results_ct rfl _ _ w.heap.size 32 #[.int .i64 (b).f0, .int .i64 (b).f1, .int .i64 (b).f2.f0, .int .i64 (b).f2.f1, .int .i64 (b).f3] (0, 0) _ rfl (blk_put (blk_put (blk_put (blk_put (blk_put HZ.out 0 _ rfl) 1 _ rfl) 2 _ rfl) 3 _ rfl) 4 _ rfl) Try.underlying32 rfl (by kernel_rfl)) rfl ?_
            exact ⟨rfl, below_set (below_set (below_set (below_set (below_set HB.out (by omega)) (by omega)) (by omega)) (by omega)) (by omega)⟩
  · rw [if_neg c3] at h
    simp only [Option.some.injEq, Prod.mk.injEq] at h
    obtain ⟨rfl, rfl, rfl, rfl, rfl, rfl⟩ := h
    have e1 : (ge == 0) = false := beq_eq_false_iff_ne.2 c3
    have e2 : (ge != 0) = true := bne_iff_ne.2 c3
    clear c3
    go_enter Try.func21, Try.ntmps21
    go_wp2_with (go_at_call 19; refine (search_Grid.calls k A0 c0 l0 A1 c1 l1 a2 a3 g ge _ HR0.out HC0.out HR1.out HC1.out HG.out).mono ?_; rintro e w1 ⟨v, rfl, ho, hb⟩; obtain ⟨A, c, e_⟩ := Kd.R_slice ho; subst e_; have HB := Aside0.mk (below_step (below_alloc (Below.refl w.heap.size w) _) hb); have HN1 := Aside0.mk (blk_below HN.out hb); have fz : ∀ j, w1.frozen? ⟨w.heap.size, j, none⟩ = false := fun j => blk_frozen HN1.out j; have z0 : w1.cell? ⟨w.heap.size, 0, none⟩ = some (.int .i64 0) := (blk_cell HN1.out 0).trans rfl; have z1 : w1.cell? ⟨w.heap.size, 1, none⟩ = some (.int .i64 0) := (blk_cell HN1.out 1).trans rfl; have z2 : w1.cell? ⟨w.heap.size, 2, none⟩ = some (.int .i64 0) := (blk_cell HN1.out 2).trans rfl; have z3 : w1.cell? ⟨w.heap.size, 3, none⟩ = some (.int .i64 0) := (blk_cell HN1.out 3).trans rfl; have z4 : w1.cell? ⟨w.heap.size, 4, none⟩ = some (.int .i64 0) := (blk_cell HN1.out 4).trans rfl; clear ho hb)
    refine bodyPost_ret (results_ct rfl _ _ w.heap.size 32 #[.int .i64 0, .int .i64 0, .int .i64 0, .int .i64 0, .int .i64 0] (0, 0) _ rfl (blk_put (blk_put (blk_put (blk_put (blk_put HN1.out 0 _ rfl) 1 _ rfl) 2 _ rfl) 3 _ rfl) 4 _ rfl) Try.underlying32 rfl (by kernel_rfl)) rfl ?_
    exact ⟨rfl, below_set (below_set (below_set (below_set (below_set HB.out (by omega)) (by omega)) (by omega)) (by omega)) (by omega)⟩

end Go.Proofs.Ytpooejjgaobcaaa.PAll
