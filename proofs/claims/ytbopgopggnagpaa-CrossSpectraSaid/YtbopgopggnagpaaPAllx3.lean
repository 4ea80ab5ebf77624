-- Written by a program of this session, after the kit's print
import Derived.Test.YtbopgopggnagpaaPAllx0
import Derived.Test.YtbopgopggnagpaaPAllx2
namespace Go.Proofs.Ytbopgopggnagpaa.PAll
open Go.RowKit Go.Proofs.YtbopgopggnagpaaW.PrintWords Go.Proofs.YtbopgopggnagpaaW.PrintLast Go.Proofs.YtbopgopggnagpaaW.PrintMore
attribute [local go_sem] max2_int min2_int max_two min_two max_three min_three max_four min_four   -- for this text's walks alone
set_option linter.unusedVariables false
set_option linter.unusedSimpArgs false

/-! ### ring_split: function 80 -/
theorem ring_split.info : (Try.prog.info? 2).map (fun i => (i.zero, i.size, i.bytes)) = some (some (.int .i64 0), 1, 8) := by kernel_rfl
def ring_take.l0 : Nat → Int → Int → List Int → Option (Int × List Int)
  | 0, _, _, _ => none
  | k + 1, d, n, out => if d = 0 then none else (if (Int.tmod n d) = 0 then (if out.length < 17592186044416 then ring_take.l0 k d (wrap64 (Int.tdiv n d)) (out ++ [d]) else none) else some (n, out))

theorem ring_take.calls (k : Nat) (d n n1 : Int) (out out1 : List Int) (bn bo base : Nat) (v : Value) (w : World)
    (hk : ring_take.l0 k d n out = some (n1, out1)) (hne : bn ≠ bo) (hbn : base ≤ bn) (hbo : base ≤ bo)
    (hn : w.heap[bn]? = some (.cells #[.int .i64 n] 2 (0, 0))) (ho : w.heap[bo]? = some (.cells #[v] 23 (0, 0)))
    (hr : Kd.R (Kd.int .i64) 2 w base (fun k => k ≠ bn ∧ k ≠ bo) v out) :
    Calls Try.prog 83 #[.int .i64 d, .pointer (some ⟨bn, 0, none⟩), .pointer (some ⟨bo, 0, none⟩)] w fun e w' => e = .returned (.tuple #[]) ∧
      ∃ v1, w'.heap[bn]? = some (.cells #[.int .i64 n1] 2 (0, 0)) ∧ w'.heap[bo]? = some (.cells #[v1] 23 (0, 0)) ∧ Kd.R (Kd.int .i64) 2 w' base (fun k => k ≠ bn ∧ k ≠ bo) v1 out1 ∧ Below base w w' := by
  have HK := Aside0.mk hk
  have HN := Aside0.mk hn
  have HO := Aside0.mk ho
  have HR := Aside0.mk hr
  clear hk hn ho hr
  go_enter Try.func83, Try.ntmps83
  go_wp2
  go_loopg [] k (fun kq w' => ∃ (n_ : Int) (out_ : List Int) (v_ : Value), Aside0 (ring_take.l0 kq d n_ out_ = some (n1, out1)) ∧ Aside0 (w'.heap[bn]? = some (.cells #[.int .i64 n_] 2 (0, 0))) ∧ Aside0 (w'.heap[bo]? = some (.cells #[v_] 23 (0, 0))) ∧ Aside0 (Kd.R (Kd.int .i64) 2 w' base (fun k => k ≠ bn ∧ k ≠ bo) v_ out_) ∧ Aside0 (Below base w w'))
  case atStart => exact ⟨n, out, v, HK, HN, HO, HR, ⟨Below.refl _ _⟩⟩
  case round =>
    clear HK HN HO HR
    obtain ⟨n_, out_, v_, HK, HN, HO, HR, HB⟩ := hrel
    cases gk with
    | zero => exact absurd HK.out (by simp [ring_take.l0])
    | succ k1 =>
      have H := HK.out
      clear HK
      simp only [ring_take.l0] at H
      have cn : wr.cell? ⟨bn, 0, none⟩ = some (.int .i64 n_) := (blk_cell HN.out 0).trans rfl
      by_cases c1 : d = 0
      · rw [if_pos c1] at H
        exact absurd H (by simp)
      · rw [if_neg c1] at H
        have c1b0 : (d == 0) = false := beq_eq_false_iff_ne.mpr c1
        have c1b1 : (d != 0) = true := bne_iff_ne.mpr c1
        by_cases c2 : Int.tmod n_ d = 0
        · rw [if_pos c2] at H
          have c2b0 : (Int.tmod n_ d == 0) = true := beq_iff_eq.mpr c2
          clear c2
          by_cases c3 : out_.length < 17592186044416
          · rw [if_pos c3] at H
            have H' := Aside0.mk H
            clear H
            have HL := Aside0.mk c3
            clear c3
            have fn_ : wr.frozen? ⟨bn, 0, none⟩ = false := blk_frozen HN.out 0
            have fo_ : wr.frozen? ⟨bo, 0, none⟩ = false := blk_frozen HO.out 0
            obtain ⟨i0, hi, hz0, hz1, hz2⟩ := info_parts ring_split.info
            rcases R_cells64 HR.out with ⟨rfl, rfl⟩ | ⟨g, c, rfl, hlc, hcl⟩
            · have co : wr.cell? ⟨bo, 0, none⟩ = some (.slice none 0 0) := (blk_cell HO.out 0).trans rfl
              have HI := Aside0.mk hi
              clear hi
              go_wp2_with (first | ((with_reducible refine gate_builtin (b := .append) (xs := #[.tmp 13, .tmp 15]) rfl ?_); at_builtin; refine wpList_append_grows _ rfl (.tmp 13) (.tmp 15) 23 rfl 2 i0 (.int .i64 0) 1 8 Try.underlying23 HI.out hz0 hz1 hz2 rfl (by decide) none 0 0 [] rfl (fun _ => ⟨rfl, rfl⟩) (by simp) ?aO ⟨wr.heap.size, 0, none⟩ 1 1 [.int .i64 d] rfl rfl (cell_one_new _ _ _) (by simp [Value.oneCell']) (by omega) ?aM ?aL ?_; (case aO => exact (fun b e => by cases e)); (case aM => have := HL.out; unfold maxLen; omega); (case aL => have := HL.out; omega); intro v1 w1 hown hg; obtain ⟨g1, cap1, rfl, hg1, _⟩ := hown.form (by omega); have HN1 := Aside0.mk (blk_grown (blk_alloc HN.out _) hg (by simp)); have HO1 := Aside0.mk (blk_grown (blk_alloc HO.out _) hg (by simp)); have co1 := (blk_cell HO1.out 0).trans rfl; have fo1 := blk_frozen HO1.out 0; have cn1 := (blk_cell HN1.out 0).trans rfl; have fn1 := blk_frozen HN1.out 0; have HW := Aside0.mk hown; have HG := Aside0.mk hg; clear hown hg))
              have hb1 := blk_lt HN.out
              have ho1 := blk_lt HO.out
              go_roundg k1
              case measure => omega
              case rel =>
                refine ⟨_, _, _, H', ⟨blk_set (blk_far HN1.out hne _) 0 _⟩, ⟨blk_far (blk_set HO1.out 0 _) (fun e => hne e.symm) _⟩, ⟨Kd.R_far (Kd.R_far (R_made64 HW.out (by simp) (by simp) (by simp; omega) (fun k hk => by simp at hk; constructor <;> omega)) (fun k hk => hk.2) _) (fun k hk => hk.1) _⟩, ⟨?_⟩⟩
                exact ((Below.grown (HB.out.alloc (by omega) _) HG.out (by simp; omega) (fun k e => by cases e)).setCell hbo _).setCell hbn _
            · have co : wr.cell? ⟨bo, 0, none⟩ = some (.slice (some ⟨g, 0, none⟩) out_.length c) := (blk_cell HO.out 0).trans rfl
              have h0 : (0 : Int) ≤ (out_.length : Int) := by omega
              have h2 : (out_.length : Int) ≤ (c : Int) := by omega
              have HC := Aside0.mk hcl
              have HI := Aside0.mk hi
              clear hcl hi
              go_wp2_with (first | ((with_reducible refine gate_builtin (b := .append) (xs := #[.tmp 13, .tmp 15]) rfl ?_); at_builtin; refine wpList_append_grows _ rfl (.tmp 13) (.tmp 15) 23 rfl 2 i0 (.int .i64 0) 1 8 Try.underlying23 HI.out hz0 hz1 hz2 rfl (by decide) (some ⟨g, 0, none⟩) out_.length out_.length (out_.map (Value.int .i64)) rfl (fun e => by cases e) (by simp) ?aO ⟨wr.heap.size, 0, none⟩ 1 1 [.int .i64 d] rfl rfl (cell_one_new _ _ _) (by simp [Value.oneCell']) (by omega) ?aM ?aL ?_; (case aO => exact (fun b e j u hj => by cases e; exact pw_cell_below (below_alloc (Below.refl _ _) _) (HC.out j u hj))); (case aM => have := HL.out; unfold maxLen; omega); (case aL => have := HL.out; omega); intro v1 w1 hown hg; obtain ⟨g1, cap1, rfl, hg1, _⟩ := hown.form (by omega); have HN1 := Aside0.mk (blk_grown (blk_alloc HN.out _) hg (by simp)); have HO1 := Aside0.mk (blk_grown (blk_alloc HO.out _) hg (by simp)); have co1 := (blk_cell HO1.out 0).trans rfl; have fo1 := blk_frozen HO1.out 0; have cn1 := (blk_cell HN1.out 0).trans rfl; have fn1 := blk_frozen HN1.out 0; have HW := Aside0.mk hown; have HG := Aside0.mk hg; clear hown hg))
              have hb1 := blk_lt HN.out
              have ho1 := blk_lt HO.out
              go_roundg k1
              case measure => omega
              case rel =>
                refine ⟨_, _, _, H', ⟨blk_set (blk_far HN1.out hne _) 0 _⟩, ⟨blk_far (blk_set HO1.out 0 _) (fun e => hne e.symm) _⟩, ⟨Kd.R_far (Kd.R_far (R_made64 HW.out (by simp) (by simp) (by simp; omega) (fun k hk => by simp at hk; constructor <;> omega)) (fun k hk => hk.2) _) (fun k hk => hk.1) _⟩, ⟨?_⟩⟩
                exact ((Below.grown (HB.out.alloc (by omega) _) HG.out (by simp; omega) (fun k e => by cases e)).setCell hbo _).setCell hbn _
          · rw [if_neg c3] at H
            exact absurd H (by simp)
        · rw [if_neg c2] at H
          have c2b0 : (Int.tmod n_ d == 0) = false := beq_eq_false_iff_ne.mpr c2
          clear c2
          simp only [Option.some.injEq, Prod.mk.injEq] at H
          obtain ⟨rfl, rfl⟩ := H
          go_wp2
          go_end0
          exact ⟨rfl, v_, HN.out, HO.out, HR.out, HB.out⟩

theorem ring_take.mono_l : ∀ k d n out, LeO (ring_take.l0 k d n out) (ring_take.l0 (k + 1) d n out)
  | 0 => fun _ _ _ r h => by simp [ring_take.l0] at h
  | k + 1 => by
    intro d n out
    have ih := ring_take.mono_l k
    unfold ring_take.l0
    repeat' first
      | (with_reducible exact ih _ _ _)
      | (with_reducible exact LeO.refl _)
      | (with_reducible exact LeO.none _)
      | (with_reducible refine LeO.ite ?_ ?_)
      | exact ih _ _ _
      | exact LeO.none _
      | refine LeO.ite ?_ ?_

def ring_split.l0 : Nat → Int → List Int → Int → Option (List Int)
  | 0, _, _, _ => none
  | k + 1, n, out, d => if d = 0 then none else (if d ≤ wrap64 (Int.tdiv n d) then ((ring_take.l0 k d n out).bind fun p => ring_split.l0 k p.1 p.2 (wrap64 (d + 2))) else (if n > 1 then (if out.length < 17592186044416 then some (out ++ [n]) else none) else some out))
def ring_split.f (k : Nat) (a0 : Int) : Option (List Int) := (ring_take.l0 k 2 a0 []).bind fun p => ring_split.l0 k p.1 p.2 3
theorem ring_split.mono_l : ∀ k n out d, LeO (ring_split.l0 k n out d) (ring_split.l0 (k + 1) n out d)
  | 0 => fun _ _ _ r h => by simp [ring_split.l0] at h
  | k + 1 => by
    intro n out d
    have ih := ring_split.mono_l k
    unfold ring_split.l0
    repeat' first
      | (with_reducible exact ih _ _ _)
      | (with_reducible exact ring_take.mono_l _ _ _ _)
      | (with_reducible exact LeO.refl _)
      | (with_reducible exact LeO.none _)
      | (with_reducible refine LeO.ite ?_ ?_)
      | (with_reducible refine LeO.bind ?_ (fun _ => ?_))
theorem ring_split.mono : ∀ a0 k, LeO (ring_split.f k a0) (ring_split.f (k + 1) a0) := by
  intro a0 k
  unfold ring_split.f
  exact LeO.bind (ring_take.mono_l _ _ _ _) (fun _ => ring_split.mono_l _ _ _ _)
set_option maxHeartbeats 8000000 in
set_option maxRecDepth 100000 in
theorem ring_split.calls (k : Nat) (a0 : Int) (r : List Int) (w : World) (h : ring_split.f k a0 = some r) :
    Calls Try.prog 80 #[.int .i64 a0] w fun e w' => ∃ v0_ : Value, e = .returned (v0_) ∧ Kd.R (Kd.int .i64) 2 w' w.heap.size (fun _ => True) v0_ r ∧ Below w.heap.size w w' := by
  have hmf : ∀ (fn : Fn) (first cap : Array Value) (w : World), (Instr.makeFunc fn first cap).run Try.prog w = .ok (.func fn first cap) w := fun _ _ _ _ => rfl
  unfold ring_split.f at h
  obtain ⟨⟨n1, out1⟩, h1, h2⟩ := Option.bind_eq_some_iff.1 h
  have H1 := Aside0.mk h1
  have H2 := Aside0.mk h2
  clear h h1 h2
  go_enter Try.func80, Try.ntmps80
  have hbn0 : ((w.alloc (.cells #[.int .i64 a0] 2)).alloc (.cells #[.slice none 0 0] 23)).heap[w.heap.size]? = some (.cells #[.int .i64 a0] 2 (0, 0)) := blk_alloc (blk_new _ _) _
  have hbo0 : ((w.alloc (.cells #[.int .i64 a0] 2)).alloc (.cells #[.slice none 0 0] 23)).heap[w.heap.size + 1]? = some (.cells #[.slice none 0 0] 23 (0, 0)) := by simpa using heap_alloc_new (w.alloc (.cells #[.int .i64 a0] 2)) (.cells #[.slice none 0 0] 23)
  have HN0 := Aside0.mk hbn0
  have HO0 := Aside0.mk hbo0
  clear hbn0 hbo0
  go_wp2_with (go_at_call 83; refine (ring_take.calls k 2 a0 n1 [] out1 w.heap.size (w.heap.size + 1) w.heap.size _ _ H1.out (by omega) (by omega) (by omega) HN0.out HO0.out (Kd.R_nil _ _ _ _ _)).mono ?_; rintro e w1 ⟨rfl, v1, hn1, ho1, hr1, hb1⟩; have HN := Aside0.mk hn1; have HO := Aside0.mk ho1; have HR := Aside0.mk hr1; have HB := Aside0.mk hb1; clear hn1 ho1 hr1 hb1)
  have HB2 := Aside0.mk ((below_alloc (below_alloc (Below.refl w.heap.size w) (.cells #[.int .i64 a0] 2)) (.cells #[.slice none 0 0] 23)).trans HB.out)
  clear HB HN0 HO0
  go_loopg [5] k (fun kq v5 w' => ∃ (d_ n_ : Int) (out_ : List Int) (v_ : Value), v5 = .int .i64 d_ ∧ Aside0 (ring_split.l0 kq n_ out_ d_ = some r) ∧ Aside0 (kq ≤ k) ∧ Aside0 (w'.heap[w.heap.size]? = some (.cells #[.int .i64 n_] 2 (0, 0))) ∧ Aside0 (w'.heap[w.heap.size + 1]? = some (.cells #[v_] 23 (0, 0))) ∧ Aside0 (Kd.R (Kd.int .i64) 2 w' w.heap.size (fun k => k ≠ w.heap.size ∧ k ≠ w.heap.size + 1) v_ out_) ∧ Aside0 (Below w.heap.size w w'))
  case atStart => exact ⟨3, n1, out1, v1, rfl, H2, ⟨Nat.le_refl _⟩, HN, HO, HR, HB2⟩
  case round =>
    clear HN HO HR HB2 H1 H2
    obtain ⟨d_, n_, out_, v_, rfl, HK, HL, HN, HO, HR, HB⟩ := hrel
    cases gk with
    | zero => exact absurd HK.out (by simp [ring_split.l0])
    | succ k1 =>
      have H := HK.out
      clear HK
      simp only [ring_split.l0] at H
      have cn : wr.cell? ⟨w.heap.size, 0, none⟩ = some (.int .i64 n_) := (blk_cell HN.out 0).trans rfl
      by_cases c1 : d_ = 0
      · rw [if_pos c1] at H
        exact absurd H (by simp)
      · rw [if_neg c1] at H
        have c1b0 : (d_ == 0) = false := beq_eq_false_iff_ne.mpr c1
        have c1b1 : (d_ != 0) = true := bne_iff_ne.mpr c1
        by_cases c2 : d_ ≤ wrap64 (Int.tdiv n_ d_)
        · rw [if_pos c2] at H
          have c2b0 : decide (d_ ≤ wrap64 (Int.tdiv n_ d_)) = true := decide_eq_true c2
          clear c2
          obtain ⟨⟨n2, out2⟩, h1, h2⟩ := Option.bind_eq_some_iff.1 H
          have H1 := Aside0.mk h1
          have H2 := Aside0.mk h2
          clear H h1 h2
          go_wp2_with (go_at_call 83; refine (ring_take.calls k1 d_ n_ n2 out_ out2 w.heap.size (w.heap.size + 1) w.heap.size _ _ H1.out (by omega) (by omega) (by omega) HN.out HO.out HR.out).mono ?_; rintro e w2 ⟨rfl, v2, hn1, ho1, hr1, hb1⟩; have HN2 := Aside0.mk hn1; have HO2 := Aside0.mk ho1; have HR2 := Aside0.mk hr1; have HB2 := Aside0.mk hb1; clear hn1 ho1 hr1 hb1)
          go_roundg k1
          case measure => omega
          case rel => exact ⟨_, n2, out2, v2, rfl, H2, ⟨by have := HL.out; omega⟩, HN2, HO2, HR2, ⟨HB.out.trans HB2.out⟩⟩
        · rw [if_neg c2] at H
          have c2b0 : decide (d_ ≤ wrap64 (Int.tdiv n_ d_)) = false := decide_eq_false c2
          clear c2
          have co : wr.cell? ⟨w.heap.size + 1, 0, none⟩ = some v_ := (blk_cell HO.out 0).trans rfl
          obtain ⟨A, c, e_⟩ := Kd.R_slice HR.out
          subst e_
          by_cases c3 : n_ > 1
          · rw [if_pos c3] at H
            have c3b0 : decide (1 < n_) = true := decide_eq_true c3
            clear c3
            by_cases c4 : out_.length < 17592186044416
            · rw [if_pos c4] at H
              have H' := Aside0.mk (Option.some.inj H)
              have LM := Aside0.mk c4
              clear H c4
              have fo_ : wr.frozen? ⟨w.heap.size + 1, 0, none⟩ = false := blk_frozen HO.out 0
              go_wp2_with (first | ((with_reducible refine gate_builtin (b := .append) (xs := #[.tmp 21, .tmp 23]) rfl ?_); at_builtin; refine Kd.R_append (Kd.int .i64) (w0 := w) w.heap.size rfl (.tmp 21) (.tmp 23) 23 2 (.int .i64 0) 8 rfl Try.underlying23 ring_split.info rfl (by decide) (by omega) (.slice A out_.length c) out_ n_ [.int .i64 n_] (fun k => k ≠ w.heap.size ∧ k ≠ w.heap.size + 1) (fun _ => False) rfl rfl ?aP (fun _ hk => hk.elim) ?aF ?aO ?aB ?aS ?aL ?_; (case aP => exact rfl); (case aB => exact HB.out); (case aF => have := blk_lt HN.out; have := blk_lt HO.out; exact fun k hk => by constructor <;> omega); (case aO => exact HR.out); (case aS => exact below_size HB.out); (case aL => have := LM.out; omega); intro v3 w3 ho hb hg hat; obtain ⟨A3, c3, e3⟩ := Kd.R_slice ho; subst e3; have HO3 := Aside0.mk (blk_grown HO.out hg (fun e => (HR.out.1 _ e.symm).2 rfl)); have co3 := (blk_cell HO3.out 0).trans rfl; have fo3 := blk_frozen HO3.out 0; have HR3 := Aside0.mk ho; have HB3 := Aside0.mk hb; clear ho hb hg hat))
              go_ret
              have hR := HR3.out
              rw [List.length_append, List.length_singleton, H'.out] at hR
              exact ⟨_, rfl, Kd.R_mono (Kd.R_far hR (fun k hk => hk.2) _) (fun _ _ => trivial), below_set HB3.out (by omega)⟩
            · rw [if_neg c4] at H
              exact absurd H (by simp)
          · rw [if_neg c3] at H
            have c3b0 : decide (1 < n_) = false := decide_eq_false c3
            clear c3
            obtain rfl := Option.some.inj H
            go_wp2
            go_ret
            exact ⟨_, rfl, Kd.R_mono HR.out (fun _ _ => trivial), HB.out⟩

/-! ### ring_generator: function 74 -/
mutual
def ring_generator.l0 : Nat → Int → List Int → Int → Option (Int)
  | 0, _, _, _ => none
  | k + 1, x0, x3, x4 => ring_generator.l1 k x0 x3 x4 x3 (x3.length : Int) 0
def ring_generator.l1 : Nat → Int → List Int → Int → List Int → Int → Int → Option (Int)
  | 0, _, _, _, _, _, _ => none
  | k + 1, x0, x3, x4, x12, x13, x14 => if x14 < x13 then (if 0 ≤ x14 then (if x14 < (x12.length : Int) then (if (rd x12 x14) = 0 then (none) else ((ring_power.f k x0 x4 (wrap64 (Int.tdiv (wrap64 (x0 - 1)) (rd x12 x14)))).bind fun t117 => (if t117 = 1 then (ring_generator.l0 k x0 x3 (wrap64 (x4 + 1))) else (ring_generator.l1 k x0 x3 x4 x12 x13 (wrap64 (x14 + 1)))))) else (none)) else (none)) else (some x4)
end
def ring_generator.f (k : Nat) (a0 : Int) : Option (Int) := (ring_split.f k (wrap64 (a0 - 1))).bind fun t113 => (ring_generator.l0 k a0 t113 1)
theorem ring_generator.mono_l : ∀ k, (∀ y0 y1 y2, LeO (ring_generator.l0 k y0 y1 y2) (ring_generator.l0 (k + 1) y0 y1 y2)) ∧ (∀ y0 y1 y2 y3 y4 y5, LeO (ring_generator.l1 k y0 y1 y2 y3 y4 y5) (ring_generator.l1 (k + 1) y0 y1 y2 y3 y4 y5))
  | 0 => ⟨fun _ _ _ r h => by simp [ring_generator.l0] at h, fun _ _ _ _ _ _ r h => by simp [ring_generator.l1] at h⟩
  | k + 1 => by
    obtain ⟨ih0, ih1⟩ := ring_generator.mono_l k
    refine ⟨?_, ?_⟩
    · intro y0 y1 y2
      unfold ring_generator.l0
      repeat' first
      | (with_reducible exact ih0 _ _ _)
      | (with_reducible exact ih1 _ _ _ _ _ _)
      | (with_reducible exact ring_power.mono _ _ _ _)
      | (with_reducible exact ring_split.mono _ _)
      | (with_reducible exact LeO.refl _)
      | (with_reducible exact LeO.none _)
      | (with_reducible refine LeO.ite ?_ ?_)
      | (with_reducible refine LeO.bind ?_ (fun _ => ?_))
      | exact ih0 _ _ _
      | exact ih1 _ _ _ _ _ _
      | exact ring_power.mono _ _ _ _
      | exact ring_split.mono _ _
      | exact LeO.none _
      | refine LeO.ite ?_ ?_
      | refine LeO.bind ?_ (fun _ => ?_)
    · intro y0 y1 y2 y3 y4 y5
      unfold ring_generator.l1
      repeat' first
      | (with_reducible exact ih0 _ _ _)
      | (with_reducible exact ih1 _ _ _ _ _ _)
      | (with_reducible exact ring_power.mono _ _ _ _)
      | (with_reducible exact ring_split.mono _ _)
      | (with_reducible exact LeO.refl _)
      | (with_reducible exact LeO.none _)
      | (with_reducible refine LeO.ite ?_ ?_)
      | (with_reducible refine LeO.bind ?_ (fun _ => ?_))
      | exact ih0 _ _ _
      | exact ih1 _ _ _ _ _ _
      | exact ring_power.mono _ _ _ _
      | exact ring_split.mono _ _
      | exact LeO.none _
      | refine LeO.ite ?_ ?_
      | refine LeO.bind ?_ (fun _ => ?_)
theorem ring_generator.mono : ∀ a0 k, LeO (ring_generator.f k a0) (ring_generator.f (k + 1) a0) := by
  intro a0 k
  obtain ⟨ih0, ih1⟩ := ring_generator.mono_l k
  unfold ring_generator.f
  repeat' first
      | (with_reducible exact ih0 _ _ _)
      | (with_reducible exact ih1 _ _ _ _ _ _)
      | (with_reducible exact ring_power.mono _ _ _ _)
      | (with_reducible exact ring_split.mono _ _)
      | (with_reducible exact LeO.refl _)
      | (with_reducible exact LeO.none _)
      | (with_reducible refine LeO.ite ?_ ?_)
      | (with_reducible refine LeO.bind ?_ (fun _ => ?_))
      | exact ih0 _ _ _
      | exact ih1 _ _ _ _ _ _
      | exact ring_power.mono _ _ _ _
      | exact ring_split.mono _ _
      | exact LeO.none _
      | refine LeO.ite ?_ ?_
      | refine LeO.bind ?_ (fun _ => ?_)
set_option maxHeartbeats 8000000 in
set_option maxRecDepth 100000 in
theorem ring_generator.calls (k : Nat) (a0 : Int) (r : Int) (w : World) (h : ring_generator.f k a0 = some r) :
    Calls Try.prog 74 #[.int .i64 a0] w fun e w' => e = .returned (.int .i64 r) ∧ Below w.heap.size w w' := by
  have HB := Aside0.mk (Below.refl w.heap.size w)
  have H : ((ring_split.f k (wrap64 (a0 - 1))).bind fun t113 => (ring_generator.l0 k a0 t113 1)) = some r := h
  clear h
  replace H := Option.bind_eq_some_iff.mp H
  obtain ⟨t113, A20, H⟩ := H
  replace H : (ring_generator.l0 k a0 t113 1) = some r := H
  have A2 := Aside0.mk A20
  clear A20
  have H' := Aside0.mk H
  clear H
  go_enter Try.func74, Try.ntmps74
  go_wp2
  go_step3
  go_wp2_with (first | ((with_reducible refine gate_callee (f := 80) rfl ?_); refine goesL_ (some 9) rfl rfl Try.func80 (by kernel_rfl) rfl #[.int .i64 (wrap64 (a0 - 1))] rfl (by (try simp only [List.map_toArray, List.map_cons, List.map_nil]); first | done | rfl | (simp only [List.length_drop, List.length_take]; rfl)) ?_; (with_reducible refine (ring_split.calls k (wrap64 (a0 - 1)) t113 _ A2.out).mono ?_); rintro e w3 ⟨v114, rfl, ho0, hb⟩; refine ⟨_, rfl, ?_⟩; have n0_ := Aside0.mk (Kd.R_lower ho0 (below_size (by repeat (first | (with_reducible first | exact HB.out | apply below_alloc | apply pw_below_drewN | apply below_drew1) | exact HB.out)))); have n1_ := Aside0.mk (below_step (by repeat (first | (with_reducible first | exact HB.out | apply below_alloc | apply pw_below_drewN | apply below_drew1) | exact HB.out)) hb); clear HB; have HO115 := n0_; have HB := n1_; clear n0_ n1_; (try clear hb); (try clear hb2); (try clear hk); (try clear hi); (try clear ho0)))
  go_step3
  go_wp2
  go_loopg [4] k (fun kq v4 w' => ∃ (x4_1 : Int), v4 = .int .i64 x4_1 ∧ Aside0 (ring_generator.l0 kq a0 t113 x4_1 = some r) ∧ Aside0 (kq ≤ k) ∧ Aside0 (Kd.R (Kd.int .i64) 2 w' w.heap.size (fun _ => True) v114 t113) ∧ Aside0 (Below w.heap.size w w'))
  case atStart => exact ⟨(1), (by first | rfl | (simp; done) | (simp [*]; done) | (simp [i64_w]; done)), H', ⟨Nat.le_refl _⟩, ⟨by (with_reducible repeat (first | apply Kd.R_alloc | apply Kd.R_drewN | apply Kd.R_drew)); exact HO115.out⟩, ⟨by repeat (first | (with_reducible first | exact HB.out | apply below_alloc | apply pw_below_drewN | apply below_drew1) | exact HB.out)⟩⟩
  case round =>
    clear H'
    try clear p2
    obtain ⟨x4_1, rfl, HA, HK1, HO_3, HB⟩ := hrel
    cases gk with
    | zero => exact absurd HA.out (by simp [ring_generator.l0])
    | succ k1 =>
      have H := HA.out
      clear HA
      simp only [ring_generator.l0] at H
      have H' := Aside0.mk H
      clear H
      obtain ⟨Ao4, co4, eo4⟩ := Kd.R_slice HO_3.out
      subst eo4
      go_wp2
      go_loopg [14] k1 (fun kq v14 w' => ∃ (x14_2 : Int), v14 = .int .i64 x14_2 ∧ Aside0 (ring_generator.l1 kq a0 t113 x4_1 t113 (t113.length : Int) x14_2 = some r) ∧ Aside0 (kq ≤ k1) ∧ Aside0 (Kd.R (Kd.int .i64) 2 w' w.heap.size (fun _ => True) (.slice Ao4 t113.length co4) t113) ∧ Aside0 (Kd.R (Kd.int .i64) 2 w' w.heap.size (fun _ => True) (.slice Ao4 t113.length co4) t113) ∧ Aside0 (Below w.heap.size w w'))
      case atStart => exact ⟨(0), (by first | rfl | (simp; done) | (simp [*]; done) | (simp [i64_w]; done)), H', ⟨Nat.le_refl _⟩, ⟨by (with_reducible repeat (first | apply Kd.R_alloc | apply Kd.R_drewN | apply Kd.R_drew)); exact HO_3.out⟩, ⟨by (with_reducible repeat (first | apply Kd.R_alloc | apply Kd.R_drewN | apply Kd.R_drew)); exact HO_3.out⟩, ⟨by repeat (first | (with_reducible first | exact HB.out | apply below_alloc | apply pw_below_drewN | apply below_drew1) | exact HB.out)⟩⟩
      case round =>
        clear H'
        try clear p2
        try clear p2
        obtain ⟨x14_2, rfl, HA, HK2, HO_3, HO_12, HB⟩ := hrel
        cases gk with
        | zero => exact absurd HA.out (by simp [ring_generator.l1])
        | succ k2 =>
          have H := HA.out
          clear HA
          simp only [ring_generator.l1] at H
          by_cases c5 : x14_2 < (t113.length : Int)
          rotate_left
          · rw [if_neg c5] at H
            have c5b0 : decide (x14_2 < (t113.length : Int)) = false := decide_eq_false c5
            clear c5
            obtain rfl := Option.some.inj H
            go_wp2
            go_ret
            exact ⟨by first | rfl | (simp [errW_none, errW_some] <;> rfl) | (simp [*, errW_none, errW_some] <;> rfl), by repeat (first | (with_reducible first | exact HB.out | apply below_alloc | apply pw_below_drewN | apply below_drew1) | exact HB.out)⟩
          rw [if_pos c5] at H
          have c5b0 : decide (x14_2 < (t113.length : Int)) = true := decide_eq_true c5
          clear c5
          by_cases c6 : 0 ≤ x14_2
          rotate_left
          · rw [if_neg c6] at H
            exact absurd H (by simp)
          rw [if_pos c6] at H
          have c6b0 : decide (0 ≤ x14_2) = true := decide_eq_true c6
          clear c6
          by_cases c7 : x14_2 < (t113.length : Int)
          rotate_left
          · rw [if_neg c7] at H
            exact absurd H (by simp)
          rw [if_pos c7] at H
          have c7b0 : decide (x14_2 < (t113.length : Int)) = true := decide_eq_true c7
          clear c7
          by_cases c8 : (rd t113 x14_2) = 0
          · rw [if_pos c8] at H
            exact absurd H (by simp)
          rw [if_neg c8] at H
          have c8b0 : ((rd t113 x14_2) == 0) = false := beq_eq_false_iff_ne.mpr c8
          have c8b1 : ((rd t113 x14_2) != 0) = true := bne_iff_ne.mpr c8
          replace H := Option.bind_eq_some_iff.mp H
          obtain ⟨t117, A90, H⟩ := H
          replace H : (if t117 = 1 then (ring_generator.l0 k2 a0 t113 (wrap64 (x4_1 + 1))) else (ring_generator.l1 k2 a0 t113 x4_1 t113 (t113.length : Int) (wrap64 (x14_2 + 1)))) = some r := H
          have A9 := Aside0.mk A90
          clear A90
          by_cases c10 : t117 = 1
          · rw [if_pos c10] at H
            have c10b0 : (t117 == 1) = true := beq_iff_eq.mpr c10
            have c10b1 : (t117 != 1) = false := bne_eq_false_iff_eq.mpr c10
            clear c10
            have H' := Aside0.mk H
            clear H
            have p116 : 0 ≤ (x14_2 : Int) := of_decide_eq_true (by first | (with_reducible assumption) | assumption)
            have q116 : x14_2 < (t113.length : Int) := of_decide_eq_true (by first | (with_reducible assumption) | assumption)
            obtain ⟨ad116, e116, hx116_0⟩ := Kd.at_int (Kd.R_reads' HO_12.out).2.2 x14_2 p116 q116
            cases e116
            replace p116 := eq_true p116
            replace q116 := eq_true q116
            go_wp2_with (first | ((with_reducible refine gate_callee (f := 63) rfl ?_); refine goesL_ (some 24) rfl rfl Try.func63 (by kernel_rfl) rfl #[.int .i64 a0, .int .i64 x4_1, .int .i64 (wrap64 (Int.tdiv (wrap64 (a0 - 1)) (rd t113 x14_2)))] rfl (by (try simp only [List.map_toArray, List.map_cons, List.map_nil]); first | done | rfl | (simp only [List.length_drop, List.length_take]; rfl)) ?_; (with_reducible refine (ring_power.calls k2 a0 x4_1 (wrap64 (Int.tdiv (wrap64 (a0 - 1)) (rd t113 x14_2))) t117 _ A9.out).mono ?_); rintro e w' ⟨rfl, ⟨nd, rfl⟩⟩; refine ⟨_, rfl, ?_⟩))
            go_roundg k2
            case measure => have := HK1.out; have := HK2.out; omega
            case rel => exact ⟨(wrap64 (x4_1 + 1)), (by first | rfl | (simp; done) | (simp [*]; done) | (simp [i64_w]; done)), H', ⟨by have := HK1.out; have := HK2.out; omega⟩, ⟨by (with_reducible repeat (first | apply Kd.R_alloc | apply Kd.R_drewN | apply Kd.R_drew)); exact HO_3.out⟩, ⟨by repeat (first | (with_reducible first | exact HB.out | apply below_alloc | apply pw_below_drewN | apply below_drew1) | exact HB.out)⟩⟩
          rw [if_neg c10] at H
          have c10b0 : (t117 == 1) = false := beq_eq_false_iff_ne.mpr c10
          have c10b1 : (t117 != 1) = true := bne_iff_ne.mpr c10
          have H' := Aside0.mk H
          clear H
          have p116 : 0 ≤ (x14_2 : Int) := of_decide_eq_true (by first | (with_reducible assumption) | assumption)
          have q116 : x14_2 < (t113.length : Int) := of_decide_eq_true (by first | (with_reducible assumption) | assumption)
          obtain ⟨ad116, e116, hx116_0⟩ := Kd.at_int (Kd.R_reads' HO_12.out).2.2 x14_2 p116 q116
          cases e116
          replace p116 := eq_true p116
          replace q116 := eq_true q116
          go_wp2_with (first | ((with_reducible refine gate_callee (f := 63) rfl ?_); refine goesL_ (some 24) rfl rfl Try.func63 (by kernel_rfl) rfl #[.int .i64 a0, .int .i64 x4_1, .int .i64 (wrap64 (Int.tdiv (wrap64 (a0 - 1)) (rd t113 x14_2)))] rfl (by (try simp only [List.map_toArray, List.map_cons, List.map_nil]); first | done | rfl | (simp only [List.length_drop, List.length_take]; rfl)) ?_; (with_reducible refine (ring_power.calls k2 a0 x4_1 (wrap64 (Int.tdiv (wrap64 (a0 - 1)) (rd t113 x14_2))) t117 _ A9.out).mono ?_); rintro e w' ⟨rfl, ⟨nd, rfl⟩⟩; refine ⟨_, rfl, ?_⟩))
          go_roundg k2
          case measure => have := HK1.out; have := HK2.out; omega
          case rel => exact ⟨(wrap64 (x14_2 + 1)), (by first | rfl | (simp; done) | (simp [*]; done) | (simp [i64_w]; done)), H', ⟨by have := HK1.out; have := HK2.out; omega⟩, ⟨by (with_reducible repeat (first | apply Kd.R_alloc | apply Kd.R_drewN | apply Kd.R_drew)); exact HO_3.out⟩, ⟨by (with_reducible repeat (first | apply Kd.R_alloc | apply Kd.R_drewN | apply Kd.R_drew)); exact HO_12.out⟩, ⟨by repeat (first | (with_reducible first | exact HB.out | apply below_alloc | apply pw_below_drewN | apply below_drew1) | exact HB.out)⟩⟩

/-! ### ring_Root: function 64 -/
def ring_Root.f (k : Nat) (a0 : Int) (a1 : Int) : Option (Int × Int) := (ring_Check.f k a0).bind fun t118 => (if t118 = 0 then (if a1 < 1 then (some (0, 2)) else (if a1 = 0 then (none) else (if (Int.tmod (wrap64 (a0 - 1)) a1) > 0 then (some (0, 6)) else ((ring_generator.f k a0).bind fun t119 => ((ring_power.f k a0 t119 (wrap64 (Int.tdiv (wrap64 (a0 - 1)) a1))).bind fun t120 => (some (t120, 0))))))) else (some (0, t118)))
theorem ring_Root.mono : ∀ a0 a1 k, LeO (ring_Root.f k a0 a1) (ring_Root.f (k + 1) a0 a1) := by
  intro a0 a1 k
  unfold ring_Root.f
  repeat' first
      | (with_reducible exact ring_Check.mono _ _)
      | (with_reducible exact ring_generator.mono _ _)
      | (with_reducible exact ring_power.mono _ _ _ _)
      | (with_reducible exact LeO.refl _)
      | (with_reducible exact LeO.none _)
      | (with_reducible refine LeO.ite ?_ ?_)
      | (with_reducible refine LeO.bind ?_ (fun _ => ?_))
      | exact ring_Check.mono _ _
      | exact ring_generator.mono _ _
      | exact ring_power.mono _ _ _ _
      | exact LeO.none _
      | refine LeO.ite ?_ ?_
      | refine LeO.bind ?_ (fun _ => ?_)
def ring_Root.T8 : Bool × List (List Nat × List Nat) := (true, [([], []), ([], []), ([1], [1]), ([], []), ([3], [3]), ([], []), ([4, 5], [4, 5]), ([0, 2, 6, 2], [0, 2, 6]), ([7, 7, 0, 1, 2, 3, 4, 5, 6, 7], [7]), ([8, 0, 1, 2, 3, 4, 5, 6, 7, 8], [])])
def ring_Root.B8 : List Nat := [0, 0, 2, 0, 8, 0, 56, 127, 255, 511]
theorem ring_Root.tab8 : rtab .any (opsOf Try.f64 8) = ring_Root.T8 := by kernel_rfl
theorem ring_Root.bits8 : waitsOk ring_Root.T8.2 ring_Root.B8 = true := by kernel_rfl
set_option maxHeartbeats 8000000 in
set_option maxRecDepth 100000 in
theorem ring_Root.calls (k : Nat) (a0 : Int) (a1 : Int) (r1 : Int) (r2 : Int) (w : World) (h : ring_Root.f k a0 a1 = some (r1, r2)) :
    Calls Try.prog 64 #[.int .i64 a0, .int .i64 a1] w fun e w' => e = .returned (.tuple #[.int .i64 r1, .int .i64 r2]) ∧ Below w.heap.size w w' := by
  have HB := Aside0.mk (Below.refl w.heap.size w)
  have H : ((ring_Check.f k a0).bind fun t118 => (if t118 = 0 then (if a1 < 1 then (some (0, 2)) else (if a1 = 0 then (none) else (if (Int.tmod (wrap64 (a0 - 1)) a1) > 0 then (some (0, 6)) else ((ring_generator.f k a0).bind fun t119 => ((ring_power.f k a0 t119 (wrap64 (Int.tdiv (wrap64 (a0 - 1)) a1))).bind fun t120 => (some (t120, 0))))))) else (some (0, t118)))) = some (r1, r2) := h
  clear h
  replace H := Option.bind_eq_some_iff.mp H
  obtain ⟨t118, A30, H⟩ := H
  replace H : (if t118 = 0 then (if a1 < 1 then (some (0, 2)) else (if a1 = 0 then (none) else (if (Int.tmod (wrap64 (a0 - 1)) a1) > 0 then (some (0, 6)) else ((ring_generator.f k a0).bind fun t119 => ((ring_power.f k a0 t119 (wrap64 (Int.tdiv (wrap64 (a0 - 1)) a1))).bind fun t120 => (some (t120, 0))))))) else (some (0, t118))) = some (r1, r2) := H
  have A3 := Aside0.mk A30
  clear A30
  by_cases c4 : t118 = 0
  rotate_left
  · rw [if_neg c4] at H
    have c4b0 : (t118 == 0) = false := beq_eq_false_iff_ne.mpr c4
    have c4b1 : (t118 != 0) = true := bne_iff_ne.mpr c4
    simp only [Option.some.injEq, Prod.mk.injEq] at H
    obtain ⟨rfl, rfl⟩ := H
    go_enter Try.func64, Try.ntmps64
    go_wp2_with (first | ((with_reducible refine gate_callee (f := 59) rfl ?_); refine goesL_ (some 8) rfl rfl Try.func59 (by kernel_rfl) rfl #[.int .i64 a0] rfl (by (try simp only [List.map_toArray, List.map_cons, List.map_nil]); first | done | rfl | (simp only [List.length_drop, List.length_take]; rfl)) ?_; (with_reducible refine (ring_Check.calls k a0 t118 _ A3.out).mono ?_); rintro e w' ⟨rfl, ⟨nd, rfl⟩⟩; refine ⟨_, rfl, ?_⟩))
    go_ret2
    exact ⟨by first | rfl | (simp [errW_none, errW_some] <;> rfl) | (simp [*, errW_none, errW_some] <;> rfl), by repeat (first | (with_reducible first | exact HB.out | apply below_alloc | apply pw_below_drewN | apply below_drew1) | exact HB.out)⟩
  rw [if_pos c4] at H
  have c4b0 : (t118 == 0) = true := beq_iff_eq.mpr c4
  have c4b1 : (t118 != 0) = false := bne_eq_false_iff_eq.mpr c4
  clear c4
  by_cases c5 : a1 < 1
  · rw [if_pos c5] at H
    have c5b0 : decide (a1 < 1) = true := decide_eq_true c5
    clear c5
    simp only [Option.some.injEq, Prod.mk.injEq] at H
    obtain ⟨rfl, rfl⟩ := H
    go_enter Try.func64, Try.ntmps64
    go_wp2_with (first | ((with_reducible refine gate_callee (f := 59) rfl ?_); refine goesL_ (some 8) rfl rfl Try.func59 (by kernel_rfl) rfl #[.int .i64 a0] rfl (by (try simp only [List.map_toArray, List.map_cons, List.map_nil]); first | done | rfl | (simp only [List.length_drop, List.length_take]; rfl)) ?_; (with_reducible refine (ring_Check.calls k a0 t118 _ A3.out).mono ?_); rintro e w' ⟨rfl, ⟨nd, rfl⟩⟩; refine ⟨_, rfl, ?_⟩))
    go_ret2
    exact ⟨by first | rfl | (simp [errW_none, errW_some] <;> rfl) | (simp [*, errW_none, errW_some] <;> rfl), by repeat (first | (with_reducible first | exact HB.out | apply below_alloc | apply pw_below_drewN | apply below_drew1) | exact HB.out)⟩
  rw [if_neg c5] at H
  have c5b0 : decide (a1 < 1) = false := decide_eq_false c5
  clear c5
  by_cases c6 : a1 = 0
  · rw [if_pos c6] at H
    exact absurd H (by simp)
  rw [if_neg c6] at H
  have c6b0 : (a1 == 0) = false := beq_eq_false_iff_ne.mpr c6
  have c6b1 : (a1 != 0) = true := bne_iff_ne.mpr c6
  by_cases c7 : (Int.tmod (wrap64 (a0 - 1)) a1) > 0
  · rw [if_pos c7] at H
    have c7b0 : decide (0 < (Int.tmod (wrap64 (a0 - 1)) a1)) = true := decide_eq_true c7
    clear c7
    simp only [Option.some.injEq, Prod.mk.injEq] at H
    obtain ⟨rfl, rfl⟩ := H
    go_enter Try.func64, Try.ntmps64
    go_wp2_with (first | ((with_reducible refine gate_callee (f := 59) rfl ?_); refine goesL_ (some 8) rfl rfl Try.func59 (by kernel_rfl) rfl #[.int .i64 a0] rfl (by (try simp only [List.map_toArray, List.map_cons, List.map_nil]); first | done | rfl | (simp only [List.length_drop, List.length_take]; rfl)) ?_; (with_reducible refine (ring_Check.calls k a0 t118 _ A3.out).mono ?_); rintro e w' ⟨rfl, ⟨nd, rfl⟩⟩; refine ⟨_, rfl, ?_⟩))
    go_ret2
    exact ⟨by first | rfl | (simp [errW_none, errW_some] <;> rfl) | (simp [*, errW_none, errW_some] <;> rfl), by repeat (first | (with_reducible first | exact HB.out | apply below_alloc | apply pw_below_drewN | apply below_drew1) | exact HB.out)⟩
  rw [if_neg c7] at H
  have c7b0 : decide (0 < (Int.tmod (wrap64 (a0 - 1)) a1)) = false := decide_eq_false c7
  clear c7
  replace H := Option.bind_eq_some_iff.mp H
  obtain ⟨t119, A80, H⟩ := H
  replace H : ((ring_power.f k a0 t119 (wrap64 (Int.tdiv (wrap64 (a0 - 1)) a1))).bind fun t120 => (some (t120, 0))) = some (r1, r2) := H
  have A8 := Aside0.mk A80
  clear A80
  replace H := Option.bind_eq_some_iff.mp H
  obtain ⟨t120, A90, H⟩ := H
  replace H : (some (t120, 0)) = some (r1, r2) := H
  have A9 := Aside0.mk A90
  clear A90
  simp only [Option.some.injEq, Prod.mk.injEq] at H
  obtain ⟨rfl, rfl⟩ := H
  go_enter Try.func64, Try.ntmps64
  try go_wp2_with (first | ((with_reducible refine gate_callee (f := 59) rfl ?_); refine goesL_ (some 8) rfl rfl Try.func59 (by kernel_rfl) rfl #[.int .i64 a0] rfl (by (try simp only [List.map_toArray, List.map_cons, List.map_nil]); first | done | rfl | (simp only [List.length_drop, List.length_take]; rfl)) ?_; (with_reducible refine (ring_Check.calls k a0 t118 _ A3.out).mono ?_); rintro e w' ⟨rfl, ⟨nd, rfl⟩⟩; refine ⟨_, rfl, ?_⟩))
  have n0_ := Aside0.mk (below_drew1 (pw_below_drewN HB.out nd))
  clear HB
  have HB := n0_
  clear n0_
  refine start_ (n := 10) (S := fun w' => True) (ds := []) #[false, false, false, false, false, false, false, false, false, false] (by kernel_rfl) rfl rfl trivial (fun hHeld => ?_); refine with_tabW ring_Root.tab8 ring_Root.bits8 (fun HT_ HW_ => ?_)
  generalize (w.drewN nd).drew = w10 at HB hHeld ⊢
  refine pure_ (i := 0) (N := some 19) (v := ?_) (a' := ?_) #[true, false, false, false, false, false, false, false, false, false] rfl rfl (any_of HT_.out (by kernel_rfl)) (fun _ _ _ h => h) (Or.inl ⟨by rfl, ?_⟩) ?_ ?_
  rotate_left
  · intro w'
    go_simp
    with_reducible rfl
  rotate_left
  · simp only [Act.put, List.setIfInBounds_toArray, List.set_cons_zero, List.set_cons_succ, i64_w, i32_w]
    rfl
  refine pure_ (i := 1) (N := some 20) (v := ?_) (a' := ?_) #[true, true, false, false, false, false, false, false, false, false] rfl rfl (any_of HT_.out (by kernel_rfl)) (fun _ _ _ h => h) (Or.inl ⟨by rfl, ?_⟩) ?_ ?_
  rotate_left
  · intro w'
    go_simp
    with_reducible rfl
  rotate_left
  · simp only [Act.put, List.setIfInBounds_toArray, List.set_cons_zero, List.set_cons_succ, i64_w, i32_w]
    rfl
  refine pure_ (i := 3) (N := some 22) (v := ?_) (a' := ?_) #[true, true, false, true, false, false, false, false, false, false] rfl rfl (any_of HT_.out (by kernel_rfl)) (fun _ _ _ h => h) (Or.inl ⟨by rfl, ?_⟩) ?_ ?_
  rotate_left
  · intro w'
    go_simp
    with_reducible rfl
  rotate_left
  · simp only [Act.put, List.setIfInBounds_toArray, List.set_cons_zero, List.set_cons_succ, i64_w, i32_w]
    rfl
  refine pure_ (i := 4) (N := some 23) (v := ?_) (a' := ?_) #[true, true, false, true, true, false, false, false, false, false] rfl rfl (any_of HT_.out (by kernel_rfl)) (fun _ _ _ h => h) (Or.inl ⟨by rfl, ?_⟩) ?_ ?_
  rotate_left
  · intro w'
    go_simp
    with_reducible rfl
  rotate_left
  · simp only [Act.put, List.setIfInBounds_toArray, List.set_cons_zero, List.set_cons_succ, i64_w, i32_w]
    rfl
  refine pure_ (i := 5) (N := some 24) (v := ?_) (a' := ?_) #[true, true, false, true, true, true, false, false, false, false] rfl rfl (any_of HT_.out (by kernel_rfl)) (fun _ _ _ h => h) (Or.inl ⟨by rfl, ?_⟩) ?_ ?_
  rotate_left
  · intro w'
    go_simp
    with_reducible rfl
  rotate_left
  · simp only [Act.put, List.setIfInBounds_toArray, List.set_cons_zero, List.set_cons_succ, i64_w, i32_w]
    rfl
  refine pure_ (i := 6) (N := some 25) (v := ?_) (a' := ?_) #[true, true, false, true, true, true, true, false, false, false] rfl rfl (any_of HT_.out (by kernel_rfl)) (fun _ _ _ h => h) (Or.inl ⟨by rfl, ?_⟩) ?_ ?_
  rotate_left
  · intro w'
    go_simp
    with_reducible rfl
  rotate_left
  · simp only [Act.put, List.setIfInBounds_toArray, List.set_cons_zero, List.set_cons_succ, i64_w, i32_w]
    rfl
  refine one_ (i := 2) (N := some 21) #[true, true, true, true, true, true, true, false, false, false] rfl rfl (one_of HT_.out (by kernel_rfl)) (by decide) (fun K hK => ?_)
  refine goes_ Try.func74 (by kernel_rfl) rfl #[.int .i64 a0] (by rfl) rfl rfl (by (try simp only [List.map_toArray, List.map_cons, List.map_nil]); first | done | rfl | (simp only [List.length_drop, List.length_take]; rfl)) ?_
  with_reducible refine (ring_generator.calls k a0 t119 _ A8.out).mono ?_
  rintro e w11 ⟨rfl, hb⟩
  refine ⟨_, rfl, ?_⟩
  have n0_ := Aside0.mk (below_step (by repeat (first | (with_reducible first | exact HB.out | apply below_alloc | apply pw_below_drewN | apply below_drew1) | exact HB.out)) hb)
  clear HB
  have HB := n0_
  clear n0_
  (try clear hb)
  (try clear hb2)
  (try clear hk)
  (try clear hi)
  refine hK.out _ _ trivial (fun hHeld => ?_)
  clear hK K
  refine norm_ (a' := ?_) ?_ ?_
  rotate_left
  · show Act.put _ (some 21) _ = _
    simp only [Act.put, List.setIfInBounds_toArray, List.set_cons_zero, List.set_cons_succ, i64_w, i32_w]
    rfl
  refine one_ (i := 7) (N := some 26) #[true, true, true, true, true, true, true, true, false, false] rfl rfl (one_of HT_.out (by kernel_rfl)) (by decide) (fun K hK => ?_)
  refine goes_ Try.func63 (by kernel_rfl) rfl #[.int .i64 a0, .int .i64 t119, .int .i64 (wrap64 (Int.tdiv (wrap64 (a0 - 1)) a1))] (by rfl) rfl rfl (by (try simp only [List.map_toArray, List.map_cons, List.map_nil]); first | done | rfl | (simp only [List.length_drop, List.length_take]; rfl)) ?_
  with_reducible refine (ring_power.calls k a0 t119 (wrap64 (Int.tdiv (wrap64 (a0 - 1)) a1)) t120 _ A9.out).mono ?_
  rintro e w' ⟨rfl, ⟨nd, rfl⟩⟩
  refine ⟨_, rfl, ?_⟩
  refine hK.out _ _ trivial (fun hHeld => ?_)
  clear hK K
  refine norm_ (a' := ?_) ?_ ?_
  rotate_left
  · show Act.put _ (some 26) _ = _
    simp only [Act.put, List.setIfInBounds_toArray, List.set_cons_zero, List.set_cons_succ, i64_w, i32_w]
    rfl
  refine pure_ (i := 8) (N := some 4) (v := ?_) (a' := ?_) #[true, true, true, true, true, true, true, true, true, false] rfl rfl (any_of HT_.out (by kernel_rfl)) (fun _ _ _ h => h) (Or.inl ⟨by rfl, ?_⟩) ?_ ?_
  rotate_left
  · intro w'
    go_simp
    with_reducible rfl
  rotate_left
  · simp only [Act.put, List.setIfInBounds_toArray, List.set_cons_zero, List.set_cons_succ, i64_w, i32_w]
    rfl
  refine pure_ (i := 9) (N := some 5) (v := ?_) (a' := ?_) #[true, true, true, true, true, true, true, true, true, true] rfl rfl (any_of HT_.out (by kernel_rfl)) (fun _ _ _ h => h) (Or.inl ⟨by rfl, ?_⟩) ?_ ?_
  rotate_left
  · intro w'
    go_simp
    with_reducible rfl
  rotate_left
  · simp only [Act.put, List.setIfInBounds_toArray, List.set_cons_zero, List.set_cons_succ, i64_w, i32_w]
    rfl
  refine done_ (done_of HT_.out (by kernel_rfl)) ?_
  try go_wp2
  go_ret2
  exact ⟨by first | rfl | (simp [errW_none, errW_some] <;> rfl) | (simp [*, errW_none, errW_some] <;> rfl), by repeat (first | (with_reducible first | exact HB.out | apply below_alloc | apply pw_below_drewN | apply below_drew1) | exact HB.out)⟩

/-! ### fourier_root: function 45 -/
def fourier_root.f (k : Nat) (a0 : Int) (l1 : List Int) : Option (Int) := (ring_Root.f k a0 (l1.length : Int)).bind fun bt121 => (some bt121.1)
theorem fourier_root.mono : ∀ a0 a1 k, LeO (fourier_root.f k a0 a1) (fourier_root.f (k + 1) a0 a1) := by
  intro a0 a1 k
  unfold fourier_root.f
  repeat' first
      | (with_reducible exact ring_Root.mono _ _ _)
      | (with_reducible exact LeO.refl _)
      | (with_reducible exact LeO.none _)
      | (with_reducible refine LeO.ite ?_ ?_)
      | (with_reducible refine LeO.bind ?_ (fun _ => ?_))
      | exact ring_Root.mono _ _ _
      | exact LeO.none _
      | refine LeO.ite ?_ ?_
      | refine LeO.bind ?_ (fun _ => ?_)
set_option maxHeartbeats 8000000 in
set_option maxRecDepth 100000 in
theorem fourier_root.calls (k : Nat) (a0 : Int) (A1 : Option Addr) (c1 : Nat) (l1 : List Int) (r : Int) (w : World) (hr1 : Kd.C (Kd.int .i64) w A1 l1.length l1) (hc1 : l1.length ≤ c1) (h : fourier_root.f k a0 l1 = some r) :
    Calls Try.prog 45 #[.int .i64 a0, .slice A1 l1.length c1] w fun e w' => e = .returned (.int .i64 r) ∧ Below w.heap.size w w' := by
  have HR1 := Aside0.mk hr1
  have HC1 := Aside0.mk hc1
  clear hr1 hc1
  have HB := Aside0.mk (Below.refl w.heap.size w)
  have H : ((ring_Root.f k a0 (l1.length : Int)).bind fun bt121 => (some bt121.1)) = some r := h
  clear h
  replace H := Option.bind_eq_some_iff.mp H
  obtain ⟨⟨t121, t122⟩, A30, H⟩ := H
  replace H : (some t121) = some r := H
  have A3 := Aside0.mk A30
  clear A30
  obtain rfl := Option.some.inj H
  go_enter Try.func45, Try.ntmps45
  go_wp2_with (first | ((with_reducible refine gate_callee (f := 64) rfl ?_); refine goesL_ (some 11) rfl rfl Try.func64 (by kernel_rfl) rfl #[.int .i64 a0, .int .i64 (l1.length : Int)] rfl (by (try simp only [List.map_toArray, List.map_cons, List.map_nil]); first | done | rfl | (simp only [List.length_drop, List.length_take]; rfl)) ?_; (with_reducible refine (ring_Root.calls k a0 (l1.length : Int) t121 t122 _ A3.out).mono ?_); rintro e w4 ⟨rfl, hb⟩; refine ⟨_, rfl, ?_⟩; have n0_ := Aside0.mk (below_step (by repeat (first | (with_reducible first | exact HB.out | apply below_alloc | apply pw_below_drewN | apply below_drew1) | exact HB.out)) hb); clear HB; have HB := n0_; clear n0_; (try clear hb); (try clear hb2); (try clear hk); (try clear hi)))
  go_ret
  exact ⟨by first | rfl | (simp [errW_none, errW_some] <;> rfl) | (simp [*, errW_none, errW_some] <;> rfl), by repeat (first | (with_reducible first | exact HB.out | apply below_alloc | apply pw_below_drewN | apply below_drew1) | exact HB.out)⟩

end Go.Proofs.Ytbopgopggnagpaa.PAll
