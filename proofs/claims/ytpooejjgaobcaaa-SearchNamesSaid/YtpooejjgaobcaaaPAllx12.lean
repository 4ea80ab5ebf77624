-- Written by a program of this session, after the kit's print
import Derived.Test.YtpooejjgaobcaaaPAllx0
import Derived.Test.YtpooejjgaobcaaaPAllx4
namespace Go.Proofs.Ytpooejjgaobcaaa.PAll
open Go.RowKit Go.Proofs.YtpooejjgaobcaaaW.PrintWords Go.Proofs.YtpooejjgaobcaaaW.PrintLast Go.Proofs.YtpooejjgaobcaaaW.PrintMore
attribute [local go_sem] max2_int min2_int max_two min_two max_three min_three max_four min_four   -- for this text's walks alone
set_option linter.unusedVariables false
set_option linter.unusedSimpArgs false

/-! ### search_cell: function 32 -/
def search_cell.acc (l0 l1 : List Int) (a2 a4 : Int) : Nat → List Int
  | 0 => [0, 0, 0, 0]
  | k + 1 => if 0 ≤ (k : Int) + a2 ∧ (k : Int) + a2 < l1.length then (search_cell.acc l0 l1 a2 a4 k).set (((k : Int) / a4) % 4).toNat (wrap64 (rd (search_cell.acc l0 l1 a2 a4 k) (((k : Int) / a4) % 4) + wrap64 (rd l0 k * rd l1 ((k : Int) + a2)))) else search_cell.acc l0 l1 a2 a4 k
def search_cell.fin (k : Nat) (s : List Int) (a3 : Int) : Nat → Int → Int → Option (Int × Int)
  | 0, re, im => some (re, im)
  | n + 1, re, im => (search_turned.f k (rd s (3 - (n : Int))) 0 (wrap64 (wrap64 (-a3) * (3 - (n : Int))))).bind fun v => search_cell.fin k s a3 n (wrap64 (re + v.1)) (wrap64 (im + v.2))
def search_cell.f (k : Nat) (l0 l1 : List Int) (a2 a3 a4 : Int) : Option (Int × Int × Int × Int × Int) :=
  if 1 ≤ a4 ∧ -1000000 ≤ a2 ∧ a2 ≤ 1000000 ∧ l0.length ≤ 1000000 then (search_cell.fin k (search_cell.acc l0 l1 a2 a4 l0.length) a3 4 0 0).bind fun v => some (a2, a3, v.1, v.2, wrap64 (wrap64 (v.1 * v.1) + wrap64 (v.2 * v.2))) else none
theorem search_cell.acc_len (l0 l1 : List Int) (a2 a4 : Int) (k : Nat) : ∃ s0 s1 s2 s3, search_cell.acc l0 l1 a2 a4 k = [s0, s1, s2, s3] := by
  have h : (search_cell.acc l0 l1 a2 a4 k).length = 4 := by
    induction k with
    | zero => rfl
    | succ k ih => unfold search_cell.acc; split <;> simp [ih]
  match hs : search_cell.acc l0 l1 a2 a4 k, h with
  | [a, b, c, d], _ => exact ⟨a, b, c, d, rfl⟩
theorem search_cell.mono_l (s : List Int) (a3 : Int) (k : Nat) : ∀ n re im, LeO (search_cell.fin k s a3 n re im) (search_cell.fin (k + 1) s a3 n re im)
  | 0 => fun _ _ => LeO.refl _
  | n + 1 => fun _ _ => LeO.bind (search_turned.mono _ _ _ _) (fun _ => search_cell.mono_l s a3 k n _ _)
theorem search_cell.mono : ∀ a0 a1 a2 a3 a4 k, LeO (search_cell.f k a0 a1 a2 a3 a4) (search_cell.f (k + 1) a0 a1 a2 a3 a4) := by
  intro a0 a1 a2 a3 a4 k
  unfold search_cell.f
  exact LeO.ite (LeO.bind (search_cell.mono_l _ _ _ _ _ _) (fun _ => LeO.refl _)) (LeO.none _)
set_option maxHeartbeats 8000000 in
set_option maxRecDepth 100000 in
theorem search_cell.calls (k : Nat) (A0 : Option Addr) (c0 : Nat) (l0 : List Int) (A1 : Option Addr) (c1 : Nat) (l1 : List Int) (a2 : Int) (a3 : Int) (a4 : Int) (r1 : Int) (r2 : Int) (r3 : Int) (r4 : Int) (r5 : Int) (w : World) (hr0 : Kd.C (Kd.int .i64) w A0 l0.length l0) (hc0 : l0.length ≤ c0) (hr1 : Kd.C (Kd.int .i64) w A1 l1.length l1) (hc1 : l1.length ≤ c1) (h : search_cell.f k l0 l1 a2 a3 a4 = some (r1, r2, r3, r4, r5)) :
    Calls Try.prog 32 #[.slice A0 l0.length c0, .slice A1 l1.length c1, .int .i64 a2, .int .i64 a3, .int .i64 a4] w fun e w' => e = .returned (.agg #[.int .i64 r1, .int .i64 r2, .int .i64 r3, .int .i64 r4, .int .i64 r5]) ∧ Below w.heap.size w w' := by
  have hu23 := Try.underlying23
  have hu32 := Try.underlying32
  unfold search_cell.f at h
  by_cases hg : 1 ≤ a4 ∧ -1000000 ≤ a2 ∧ a2 ≤ 1000000 ∧ l0.length ≤ 1000000
  · rw [if_pos hg] at h
    obtain ⟨g1, g2, g3, g4⟩ := hg
    have HR0 := Aside0.mk hr0
    have HR1 := Aside0.mk hr1
    have hm1 : l1.length ≤ 9223372036854775807 := hr1.2.1
    have H := Aside0.mk h
    clear hr0 hc0 hr1 hc1 h
    go_enter Try.func32, Try.ntmps32
    go_wp2
    go_loopg [20] (l0.length + 1) (fun kq v20 w' => ∃ i : Nat, v20 = .int .i64 (i : Int) ∧ Aside0 (kq + i = l0.length + 1) ∧ Aside0 (i ≤ l0.length) ∧ Aside0 (w'.heap[w.heap.size]? = some (.cells #[.int .i64 0, .int .i64 0, .int .i64 0, .int .i64 0, .int .i64 0] 32 (0, 0))) ∧ Aside0 (∃ s0 s1 s2 s3, search_cell.acc l0 l1 a2 a4 i = [s0, s1, s2, s3] ∧ w'.heap[w.heap.size + 1]? = some (.cells #[.int .i64 s0, .int .i64 s1, .int .i64 s2, .int .i64 s3] 75 (0, 0))) ∧ Aside0 (Below w.heap.size w w'))
    case atStart => exact ⟨0, by simp, ⟨by simp⟩, ⟨by simp⟩, ⟨blk_alloc (blk_new _ _) _⟩, ⟨0, 0, 0, 0, rfl, by simpa using heap_alloc_new (w.alloc _) _⟩, ⟨below_alloc (below_alloc (Below.refl _ _) _) _⟩⟩
    case round =>
      obtain ⟨i, rfl, HK, HI, HB0, HS, HB⟩ := hrel
      by_cases c3 : i < l0.length
      · have c3b : decide ((i : Int) < (l0.length : Int)) = true := decide_eq_true (by omega)
        have p1 : 0 ≤ (i : Int) := by omega
        have q1 : (i : Int) < (l0.length : Int) := by omega
        by_cases c4 : 0 ≤ (i : Int) + a2 ∧ (i : Int) + a2 < l1.length
        · obtain ⟨c4a, c4b⟩ := c4
          obtain ⟨s0, s1, s2, s3, hs, hb1⟩ := HS.out
          have HA := Aside0.mk hs
          have HB1 := Aside0.mk hb1
          clear hs hb1 HS
          obtain ⟨ad, e1, hx⟩ := Kd.at_int (Kd.C_below HR0.out HB.out) (i : Int) p1 q1
          cases e1
          obtain ⟨ad1, e2, hy⟩ := Kd.at_int (Kd.C_below HR1.out HB.out) ((i : Int) + a2) c4a c4b
          cases e2
          rw [Int.toNat_natCast] at hx
          have d0 := (blk_cell HB1.out 0).trans rfl
          have d1 := (blk_cell HB1.out 1).trans rfl
          have d2 := (blk_cell HB1.out 2).trans rfl
          have d3 := (blk_cell HB1.out 3).trans rfl
          have f0 := blk_frozen HB1.out 0
          have f1 := blk_frozen HB1.out 1
          have f2 := blk_frozen HB1.out 2
          have f3 := blk_frozen HB1.out 3
          have hq : ((i : Int) / a4) % 4 = 0 ∨ ((i : Int) / a4) % 4 = 1 ∨ ((i : Int) / a4) % 4 = 2 ∨ ((i : Int) / a4) % 4 = 3 := by omega
          have n4 : ¬ a4 = 0 := by omega
          have n5 : (a4 == 0) = false := beq_eq_false_iff_ne.2 n4
          have hd0 : 0 ≤ (i : Int) / a4 := Int.ediv_nonneg p1 (by omega)
          have hd1 : (i : Int) / a4 ≤ (i : Int) := Int.ediv_le_self _ p1
          have hw : wrap64 ((i : Int) / a4) = (i : Int) / a4 := by unfold wrap64; omega
          have hq1 : (wrap64 ((i : Int) / a4)).tmod 4 = ((i : Int) / a4) % 4 := by rw [hw, Int.tmod_eq_emod_of_nonneg hd0]
          rw [hw] at hq1
          rcases hq with hq | hq | hq | hq
          all_goals
            rw [hq] at hq1
            have HQ := Aside0.mk hq
            clear hq
            go_wp2
            go_big_region
            go_wp2
            go_roundg (l0.length - i)
            case measure => have := HK.out; omega
            case rel => exact ⟨i + 1, by simp, ⟨by omega⟩, ⟨by omega⟩, ⟨blk_drew (blk_far HB0.out (by simp) _)⟩, ⟨_, _, _, _, by rw [search_cell.acc, if_pos ⟨c4a, c4b⟩, HA.out, HQ.out]; rfl, blk_drew (blk_put HB1.out _ _ rfl)⟩, ⟨below_drew1 (below_set HB.out (by omega))⟩⟩
        · have HC := Aside0.mk c4
          clear c4
          by_cases c5 : 0 ≤ (i : Int) + a2
          · have c6 : ¬ ((i : Int) + a2 < l1.length) := fun h => HC.out ⟨c5, h⟩
            go_wp2
            go_roundg (l0.length - i)
            case measure => have := HK.out; omega
            case rel => exact ⟨i + 1, by simp, ⟨by omega⟩, ⟨by omega⟩, HB0, ⟨by rw [search_cell.acc, if_neg HC.out]; exact HS.out⟩, HB⟩
          · go_wp2
            go_roundg (l0.length - i)
            case measure => have := HK.out; omega
            case rel => exact ⟨i + 1, by simp, ⟨by omega⟩, ⟨by omega⟩, HB0, ⟨by rw [search_cell.acc, if_neg HC.out]; exact HS.out⟩, HB⟩
      · have c3b : decide ((i : Int) < (l0.length : Int)) = false := decide_eq_false (by omega)
        have hi : i = l0.length := by have := HI.out; omega
        have HI2 := Aside0.mk hi
        clear hi
        obtain ⟨s0, s1, s2, s3, hs, hb1⟩ := HS.out
        have HA := Aside0.mk hs
        have HB1 := Aside0.mk hb1
        clear hs hb1 HS
        have d0 : ∀ o, (wr.alloc o).cell? ⟨w.heap.size + 1, 0, none⟩ = some (.int .i64 s0) := fun o => pw_cell_below (below_alloc (Below.refl _ _) o) ((blk_cell HB1.out 0).trans rfl)
        have d1 : ∀ o, (wr.alloc o).cell? ⟨w.heap.size + 1, 1, none⟩ = some (.int .i64 s1) := fun o => pw_cell_below (below_alloc (Below.refl _ _) o) ((blk_cell HB1.out 1).trans rfl)
        have d2 : ∀ o, (wr.alloc o).cell? ⟨w.heap.size + 1, 2, none⟩ = some (.int .i64 s2) := fun o => pw_cell_below (below_alloc (Below.refl _ _) o) ((blk_cell HB1.out 2).trans rfl)
        have d3 : ∀ o, (wr.alloc o).cell? ⟨w.heap.size + 1, 3, none⟩ = some (.int .i64 s3) := fun o => pw_cell_below (below_alloc (Below.refl _ _) o) ((blk_cell HB1.out 3).trans rfl)
        obtain ⟨wo, rfl⟩ : ∃ wo : World, wo = wr := ⟨_, rfl⟩
        have hlt : w.heap.size < wo.heap.size := blk_lt HB0.out
        obtain ⟨⟨q1, q2⟩, hf, he⟩ := Option.bind_eq_some_iff.1 H.out
        rw [← HI2.out, HA.out] at hf
        have HF := Aside0.mk hf
        have HE := Aside0.mk (Option.some.inj he)
        clear hf he
        go_wp2
        go_loopg [56] 5 (fun kq v56 w' => ∃ (n : Nat) (t re im : Int), v56 = .int .i64 t ∧ Aside0 (kq = n + 1) ∧ Aside0 (t + n = 4) ∧ Aside0 (n ≤ 4) ∧ Aside0 (search_cell.fin k [s0, s1, s2, s3] a3 n re im = some (q1, q2)) ∧ Aside0 (w'.heap[w.heap.size]? = some (.cells #[.int .i64 0, .int .i64 0, .int .i64 0, .int .i64 0, .int .i64 0] 32 (0, 0))) ∧ Aside0 (w'.heap[wo.heap.size]? = some (.cells #[.int .i64 a2, .int .i64 a3, .int .i64 re, .int .i64 im, .int .i64 0] 32 (0, 0))) ∧ Aside0 (Below w.heap.size w w'))
        case atStart => exact ⟨4, 0, 0, 0, rfl, ⟨rfl⟩, ⟨rfl⟩, ⟨by omega⟩, HF, ⟨blk_alloc HB0.out _⟩, ⟨blk_new _ _⟩, ⟨below_alloc HB.out _⟩⟩
        case round =>
          clear HF HB0 HB HB1 HR0 HR1
          obtain ⟨n, t, re, im, rfl, HK2, HT, HN, HF, HB0, HBC, HB⟩ := hrel
          have v0 : wr.cell? ⟨wo.heap.size, 2, none⟩ = some (.int .i64 re) := (blk_cell HBC.out 2).trans rfl
          have v1 : wr.cell? ⟨wo.heap.size, 3, none⟩ = some (.int .i64 im) := (blk_cell HBC.out 3).trans rfl
          have hn := HN.out
          have hcs : n = 0 ∨ n = 1 ∨ n = 2 ∨ n = 3 ∨ n = 4 := by omega
          clear hn
          have ix0 : ∀ w, (Instr.index 75 (.agg #[.int .i64 s0, .int .i64 s1, .int .i64 s2, .int .i64 s3]) (.int .i64 0)).run Try.prog w = .ok (.int .i64 s0) w := fun _ => by rfl
          have ix1 : ∀ w, (Instr.index 75 (.agg #[.int .i64 s0, .int .i64 s1, .int .i64 s2, .int .i64 s3]) (.int .i64 1)).run Try.prog w = .ok (.int .i64 s1) w := fun _ => by rfl
          have ix2 : ∀ w, (Instr.index 75 (.agg #[.int .i64 s0, .int .i64 s1, .int .i64 s2, .int .i64 s3]) (.int .i64 2)).run Try.prog w = .ok (.int .i64 s2) w := fun _ => by rfl
          have ix3 : ∀ w, (Instr.index 75 (.agg #[.int .i64 s0, .int .i64 s1, .int .i64 s2, .int .i64 s3]) (.int .i64 3)).run Try.prog w = .ok (.int .i64 s3) w := fun _ => by rfl
          rcases hcs with rfl | rfl | rfl | rfl | rfl
          · obtain rfl : t = 4 := by have := HT.out; omega
            have hz := HF.out
            simp only [search_cell.fin, Option.some.injEq, Prod.mk.injEq] at hz
            obtain ⟨rfl, rfl⟩ := hz
            have hl1 := blk_lt HBC.out
            have hl0 := blk_lt HB0.out
            have v2 : wr.cell? ⟨wo.heap.size, 0, none⟩ = some (.int .i64 a2) := (blk_cell HBC.out 0).trans rfl
            have v3 : wr.cell? ⟨wo.heap.size, 1, none⟩ = some (.int .i64 a3) := (blk_cell HBC.out 1).trans rfl
            have v4 : wr.cell? ⟨wo.heap.size, 4, none⟩ = some (.int .i64 0) := (blk_cell HBC.out 4).trans rfl
            have f4 : ∀ j, wr.frozen? ⟨wo.heap.size, j, none⟩ = false := fun j => blk_frozen HBC.out j
            have f5 : ∀ j, wr.frozen? ⟨w.heap.size, j, none⟩ = false := fun j => blk_frozen HB0.out j
            have z0 : wr.cell? ⟨w.heap.size, 0, none⟩ = some (.int .i64 0) := (blk_cell HB0.out 0).trans rfl
            have z1 : wr.cell? ⟨w.heap.size, 1, none⟩ = some (.int .i64 0) := (blk_cell HB0.out 1).trans rfl
            have z2 : wr.cell? ⟨w.heap.size, 2, none⟩ = some (.int .i64 0) := (blk_cell HB0.out 2).trans rfl
            have z3 : wr.cell? ⟨w.heap.size, 3, none⟩ = some (.int .i64 0) := (blk_cell HB0.out 3).trans rfl
            have z4 : wr.cell? ⟨w.heap.size, 4, none⟩ = some (.int .i64 0) := (blk_cell HB0.out 4).trans rfl
            go_wp2
            have he := HE.out
            simp only [Prod.mk.injEq] at he
            obtain ⟨rfl, rfl, rfl, rfl, rfl⟩ := he
            refine bodyPost_ret (results_cell_row rfl _ _ w.heap.size 32 #[.int .i64 a2, .int .i64 a3, .int .i64 re, .int .i64 im, .int .i64 (wrap64 (wrap64 (re * re) + wrap64 (im * im)))] (0, 0) _ rfl (blk_put (blk_put (blk_put (blk_put (blk_put (blk_far HB0.out (by simp; omega) _) 0 _ rfl) 1 _ rfl) 2 _ rfl) 3 _ rfl) 4 _ rfl) Try.underlying32 rfl (by kernel_rfl)) rfl ?_
            exact ⟨rfl, below_set (below_set (below_set (below_set (below_set (below_set HB.out (by omega)) (by omega)) (by omega)) (by omega)) (by omega)) (by omega)⟩
          all_goals
            obtain ⟨⟨u1, u2⟩, ht, hr⟩ := Option.bind_eq_some_iff.1 (show _ = _ from HF.out)
          · obtain rfl : t = 3 := by have := HT.out; omega
            have HT2 : Aside0 (search_turned.f k s3 0 ((wrap64 (wrap64 (-a3) * 3))) = some (u1, u2)) := ⟨by first | exact ht | (simpa [rd, wrap64] using ht)⟩
            have HR2 := Aside0.mk hr
            clear ht hr HF
            go_wp2_with (go_at_call 29; refine (search_turned.calls k _ _ _ u1 u2 _ HT2.out).mono ?_; rintro e w1 ⟨rfl, hb⟩; have HB0' := Aside0.mk (blk_below HB0.out hb); have HBC' := Aside0.mk (blk_below HBC.out hb); have HB' := Aside0.mk (below_step HB.out hb); have hl1 := blk_lt HBC'.out; have hl0 := blk_lt HB0'.out; have v0' : ∀ o, (w1.alloc o).cell? ⟨wo.heap.size, 2, none⟩ = some (.int .i64 re) := fun o => pw_cell_below (below_alloc (Below.refl _ _) o) ((blk_cell HBC'.out 2).trans rfl); have v1' : ∀ o, (w1.alloc o).cell? ⟨wo.heap.size, 3, none⟩ = some (.int .i64 im) := fun o => pw_cell_below (below_alloc (Below.refl _ _) o) ((blk_cell HBC'.out 3).trans rfl); have v2' : ∀ u o, ((w1.setCell ⟨wo.heap.size, 2, none⟩ u).alloc o).cell? ⟨wo.heap.size, 3, none⟩ = some (.int .i64 im) := fun u o => pw_cell_below (below_alloc (Below.refl _ _) o) ((blk_cell (blk_set HBC'.out 2 u) 3).trans rfl); have f2' : ∀ u o j, ((w1.setCell ⟨wo.heap.size, 2, none⟩ u).alloc o).frozen? ⟨wo.heap.size, j, none⟩ = false := fun u o j => blk_frozen (blk_alloc (blk_set HBC'.out 2 u) o) j; have f0' : ∀ o j, (w1.alloc o).frozen? ⟨wo.heap.size, j, none⟩ = false := fun o j => blk_frozen (blk_alloc HBC'.out o) j; clear hb)
            go_roundg 1
            case measure => have := HK2.out; omega
            case rel => exact ⟨0, 4, _, _, rfl, ⟨rfl⟩, ⟨rfl⟩, ⟨by omega⟩, HR2, ⟨blk_alloc (blk_far (blk_far HB0'.out (by simp; omega) _) (by simp; omega) _) _⟩, ⟨blk_alloc (blk_put (blk_put HBC'.out _ _ rfl) _ _ rfl) _⟩, ⟨below_alloc (below_set (below_set HB'.out (by omega)) (by omega)) _⟩⟩
          · obtain rfl : t = 2 := by have := HT.out; omega
            have HT2 : Aside0 (search_turned.f k s2 0 ((wrap64 (wrap64 (-a3) * 2))) = some (u1, u2)) := ⟨by first | exact ht | (simpa [rd, wrap64] using ht)⟩
            have HR2 := Aside0.mk hr
            clear ht hr HF
            go_wp2_with (go_at_call 29; refine (search_turned.calls k _ _ _ u1 u2 _ HT2.out).mono ?_; rintro e w1 ⟨rfl, hb⟩; have HB0' := Aside0.mk (blk_below HB0.out hb); have HBC' := Aside0.mk (blk_below HBC.out hb); have HB' := Aside0.mk (below_step HB.out hb); have hl1 := blk_lt HBC'.out; have hl0 := blk_lt HB0'.out; have v0' : ∀ o, (w1.alloc o).cell? ⟨wo.heap.size, 2, none⟩ = some (.int .i64 re) := fun o => pw_cell_below (below_alloc (Below.refl _ _) o) ((blk_cell HBC'.out 2).trans rfl); have v1' : ∀ o, (w1.alloc o).cell? ⟨wo.heap.size, 3, none⟩ = some (.int .i64 im) := fun o => pw_cell_below (below_alloc (Below.refl _ _) o) ((blk_cell HBC'.out 3).trans rfl); have v2' : ∀ u o, ((w1.setCell ⟨wo.heap.size, 2, none⟩ u).alloc o).cell? ⟨wo.heap.size, 3, none⟩ = some (.int .i64 im) := fun u o => pw_cell_below (below_alloc (Below.refl _ _) o) ((blk_cell (blk_set HBC'.out 2 u) 3).trans rfl); have f2' : ∀ u o j, ((w1.setCell ⟨wo.heap.size, 2, none⟩ u).alloc o).frozen? ⟨wo.heap.size, j, none⟩ = false := fun u o j => blk_frozen (blk_alloc (blk_set HBC'.out 2 u) o) j; have f0' : ∀ o j, (w1.alloc o).frozen? ⟨wo.heap.size, j, none⟩ = false := fun o j => blk_frozen (blk_alloc HBC'.out o) j; clear hb)
            go_roundg 2
            case measure => have := HK2.out; omega
            case rel => exact ⟨1, 3, _, _, rfl, ⟨rfl⟩, ⟨rfl⟩, ⟨by omega⟩, HR2, ⟨blk_alloc (blk_far (blk_far HB0'.out (by simp; omega) _) (by simp; omega) _) _⟩, ⟨blk_alloc (blk_put (blk_put HBC'.out _ _ rfl) _ _ rfl) _⟩, ⟨below_alloc (below_set (below_set HB'.out (by omega)) (by omega)) _⟩⟩
          · obtain rfl : t = 1 := by have := HT.out; omega
            have HT2 : Aside0 (search_turned.f k s1 0 ((wrap64 (wrap64 (-a3)))) = some (u1, u2)) := ⟨by first | exact ht | (simpa [rd, wrap64] using ht)⟩
            have HR2 := Aside0.mk hr
            clear ht hr HF
            go_wp2_with (go_at_call 29; refine (search_turned.calls k _ _ _ u1 u2 _ HT2.out).mono ?_; rintro e w1 ⟨rfl, hb⟩; have HB0' := Aside0.mk (blk_below HB0.out hb); have HBC' := Aside0.mk (blk_below HBC.out hb); have HB' := Aside0.mk (below_step HB.out hb); have hl1 := blk_lt HBC'.out; have hl0 := blk_lt HB0'.out; have v0' : ∀ o, (w1.alloc o).cell? ⟨wo.heap.size, 2, none⟩ = some (.int .i64 re) := fun o => pw_cell_below (below_alloc (Below.refl _ _) o) ((blk_cell HBC'.out 2).trans rfl); have v1' : ∀ o, (w1.alloc o).cell? ⟨wo.heap.size, 3, none⟩ = some (.int .i64 im) := fun o => pw_cell_below (below_alloc (Below.refl _ _) o) ((blk_cell HBC'.out 3).trans rfl); have v2' : ∀ u o, ((w1.setCell ⟨wo.heap.size, 2, none⟩ u).alloc o).cell? ⟨wo.heap.size, 3, none⟩ = some (.int .i64 im) := fun u o => pw_cell_below (below_alloc (Below.refl _ _) o) ((blk_cell (blk_set HBC'.out 2 u) 3).trans rfl); have f2' : ∀ u o j, ((w1.setCell ⟨wo.heap.size, 2, none⟩ u).alloc o).frozen? ⟨wo.heap.size, j, none⟩ = false := fun u o j => blk_frozen (blk_alloc (blk_set HBC'.out 2 u) o) j; have f0' : ∀ o j, (w1.alloc o).frozen? ⟨wo.heap.size, j, none⟩ = false := fun o j => blk_frozen (blk_alloc HBC'.out o) j; clear hb)
            go_roundg 3
            case measure => have := HK2.out; omega
            case rel => exact ⟨2, 2, _, _, rfl, ⟨rfl⟩, ⟨rfl⟩, ⟨by omega⟩, HR2, ⟨blk_alloc (blk_far (blk_far HB0'.out (by simp; omega) _) (by simp; omega) _) _⟩, ⟨blk_alloc (blk_put (blk_put HBC'.out _ _ rfl) _ _ rfl) _⟩, ⟨below_alloc (below_set (below_set HB'.out (by omega)) (by omega)) _⟩⟩
          · obtain rfl : t = 0 := by have := HT.out; omega
            have HT2 : Aside0 (search_turned.f k s0 0 (0) = some (u1, u2)) := ⟨by first | exact ht | (simpa [rd, wrap64] using ht)⟩
            have HR2 := Aside0.mk hr
            clear ht hr HF
            go_wp2_with (go_at_call 29; refine (search_turned.calls k _ _ _ u1 u2 _ HT2.out).mono ?_; rintro e w1 ⟨rfl, hb⟩; have HB0' := Aside0.mk (blk_below HB0.out hb); have HBC' := Aside0.mk (blk_below HBC.out hb); have HB' := Aside0.mk (below_step HB.out hb); have hl1 := blk_lt HBC'.out; have hl0 := blk_lt HB0'.out; have v0' : ∀ o, (w1.alloc o).cell? ⟨wo.heap.size, 2, none⟩ = some (.int .i64 re) := fun o => pw_cell_below (below_alloc (Below.refl _ _) o) ((blk_cell HBC'.out 2).trans rfl); have v1' : ∀ o, (w1.alloc o).cell? ⟨wo.heap.size, 3, none⟩ = some (.int .i64 im) := fun o => pw_cell_below (below_alloc (Below.refl _ _) o) ((blk_cell HBC'.out 3).trans rfl); have v2' : ∀ u o, ((w1.setCell ⟨wo.heap.size, 2, none⟩ u).alloc o).cell? ⟨wo.heap.size, 3, none⟩ = some (.int .i64 im) := fun u o => pw_cell_below (below_alloc (Below.refl _ _) o) ((blk_cell (blk_set HBC'.out 2 u) 3).trans rfl); have f2' : ∀ u o j, ((w1.setCell ⟨wo.heap.size, 2, none⟩ u).alloc o).frozen? ⟨wo.heap.size, j, none⟩ = false := fun u o j => blk_frozen (blk_alloc (blk_set HBC'.out 2 u) o) j; have f0' : ∀ o j, (w1.alloc o).frozen? ⟨wo.heap.size, j, none⟩ = false := fun o j => blk_frozen (blk_alloc HBC'.out o) j; clear hb)
            go_roundg 4
            case measure => have := HK2.out; omega
            case rel => exact ⟨3, 1, _, _, rfl, ⟨rfl⟩, ⟨rfl⟩, ⟨by omega⟩, HR2, ⟨blk_alloc (blk_far (blk_far HB0'.out (by simp; omega) _) (by simp; omega) _) _⟩, ⟨blk_alloc (blk_put (blk_put HBC'.out _ _ rfl) _ _ rfl) _⟩, ⟨below_alloc (below_set (below_set HB'.out (by omega)) (by omega)) _⟩⟩
  · rw [if_neg hg] at h
    cases h

end Go.Proofs.Ytpooejjgaobcaaa.PAll
