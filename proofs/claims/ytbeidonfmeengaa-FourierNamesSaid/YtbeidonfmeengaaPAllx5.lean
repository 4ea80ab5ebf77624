-- Written by a program of this session, after the kit's print
import Derived.Test.YtbeidonfmeengaaPAllx0
import Derived.Test.YtbeidonfmeengaaPAllx1
namespace Go.Proofs.Ytbeidonfmeengaa.PAll
open Go.RowKit Go.Proofs.YtbeidonfmeengaaW.PrintWords Go.Proofs.YtbeidonfmeengaaW.PrintLast Go.Proofs.YtbeidonfmeengaaW.PrintMore
attribute [local go_sem] max2_int min2_int max_two min_two max_three min_three max_four min_four   -- for this text's walks alone
set_option linter.unusedVariables false
set_option linter.unusedSimpArgs false

/-! ### fourier_Turn: function 20 -/
set_option maxHeartbeats 4000000 in
theorem fourier_Turn.grow (n : Nat) (hn : n ≤ 1000000) (w : World) :
    Calls Try.prog 53 #[.slice none 0 0, .int .i64 (n : Int)] w fun e w' => ∃ v : Value, e = .returned v ∧ Kd.R (Kd.int .i64) 2 w' w.heap.size (fun _ => True) v [] ∧ Below w.heap.size w w' := by
  have hneg : decide ((n : Int) < 0) = false := decide_eq_false (by omega)
  have e1 : wrap64 (n : Int) = (n : Int) := by unfold wrap64; omega
  have E1 := Aside0.mk e1
  rcases Nat.eq_zero_or_pos n with rfl | hpos
  · go_enter Try.func53, Try.ntmps53
    go_wp2
    go_ret
    exact ⟨_, rfl, Kd.R_nil _ _ _ _ _, Below.refl _ _⟩
  · have hp2 : decide (0 < (n : Int)) = true := decide_eq_true (by omega)
    have HN := Aside0.mk hn
    clear hn
    go_enter Try.func53, Try.ntmps53
    go_wp2_with ((with_reducible refine gate_builtin (b := .append) (xs := #[.tmp 20, .tmp 21]) rfl ?_); at_builtin; refine Kd.R_append_zeros (Kd.int .i64) (w0 := w) w.heap.size rfl (.tmp 20) (.tmp 21) 22 3 2 (.int .i64 0) 8 rfl Try.underlying22 Try.underlying3 info2 rfl (by decide) (by omega) (.slice none 0 0) [] 0 (wrap64 (n : Int)) (fun _ => True) rfl rfl rfl (fun _ _ => trivial) (Kd.R_nil _ _ _ _ _) (by rw [E1.out]; omega) (Below.refl _ _) (Nat.le_refl _) (by have := HN.out; rw [E1.out]; simp only [List.length_nil, Int.toNat_natCast]; omega) ?_; intro v1 w1 ho hb hg hat; (obtain ⟨A_, c_, rfl⟩ := Kd.R_slice ho); have HO := Aside0.mk (Kd.R_take (m := 0) ho (Nat.zero_le _)); have HB := Aside0.mk hb; clear ho hb hg hat)
    go_ret
    exact ⟨_, rfl, HO.out, HB.out⟩
set_option maxHeartbeats 8000000 in
set_option maxRecDepth 100000 in
theorem fourier_Turn.concat (A1 A2 : Option Addr) (c1 c2 : Nat) (l1 l2 : List Int) (B : Nat) (w : World) (hB : w.cell? ⟨B, 0, none⟩ = some (.slice A1 l1.length c1)) (hB2 : w.cell? ⟨B, 1, none⟩ = some (.slice A2 l2.length c2))
    (hr1 : Kd.C (Kd.int .i64) w A1 l1.length l1) (hr2 : Kd.C (Kd.int .i64) w A2 l2.length l2) (hl : l1.length + l2.length ≤ 1000000) :
    Calls Try.prog 41 #[.slice (some ⟨B, 0, none⟩) 2 2] w fun e w' => ∃ v : Value, e = .returned v ∧ Kd.R (Kd.int .i64) 2 w' w.heap.size (fun _ => True) v (l1 ++ l2) ∧ Below w.heap.size w w' := by
  have HR1 := Aside0.mk hr1
  have HR2 := Aside0.mk hr2
  have HL := Aside0.mk hl
  have w1 : wrap64 (l1.length : Int) = (l1.length : Int) := by unfold wrap64; omega
  have w2 : wrap64 ((l1.length : Int) + (l2.length : Int)) = (l1.length : Int) + (l2.length : Int) := by unfold wrap64; omega
  have n1 : decide ((l1.length : Int) < 0) = false := decide_eq_false (by omega)
  have n2 : decide ((l1.length : Int) + (l2.length : Int) < 0) = false := decide_eq_false (by omega)
  have hlt := World.block_lt_of_cell? _ _ hB
  have HLT := Aside0.mk hlt
  clear hr1 hr2 hl hlt
  go_enter Try.func41, Try.ntmps41
  go_wp2
  go_loopg [3, 11] 3 (fun kq v3 v11 w' => ∃ i : Nat, v11 = .int .i64 (i : Int) ∧ Aside0 (kq + i = 3) ∧ w = w' ∧ ((i = 0 ∧ v3 = .int .i64 0) ∨ (i = 1 ∧ v3 = .int .i64 (l1.length : Int)) ∨ (i = 2 ∧ v3 = .int .i64 ((l1.length : Int) + (l2.length : Int)))))
  case atStart => exact ⟨0, by simp, ⟨by simp⟩, rfl, .inl ⟨rfl, rfl⟩⟩
  case round =>
    obtain ⟨i, rfl, HK, rfl, hc⟩ := hrel
    rcases hc with ⟨rfl, rfl⟩ | ⟨rfl, rfl⟩ | ⟨rfl, rfl⟩
    · go_wp2
      go_roundg 2
      case measure => have := HK.out; omega
      case rel => exact ⟨1, by simp, ⟨by simp⟩, rfl, .inr (.inl ⟨rfl, by simp [w1]⟩)⟩
    · go_wp2
      go_roundg 1
      case measure => have := HK.out; omega
      case rel => exact ⟨2, by simp, ⟨by simp⟩, rfl, .inr (.inr ⟨rfl, by simp [w2]⟩)⟩
    · go_wp2_with (go_at_call 53; refine (fourier_Turn.grow _ HL.out _).mono ?_; rintro e wG ⟨v, rfl, hr, hb⟩; have HRV := Aside0.mk hr; have HB := Aside0.mk hb; have hB_ := (hb.cell (p := ⟨B, 0, none⟩) (World.block_lt_of_cell? _ _ hB)).trans hB; have hB2_ := (hb.cell (p := ⟨B, 1, none⟩) (World.block_lt_of_cell? _ _ hB2)).trans hB2; clear hr hb hB hB2)
      go_loopg [6, 27] 3 (fun kq v6 v27 w' => ∃ i : Nat, v27 = .int .i64 (i : Int) ∧ Aside0 (kq + i = 3) ∧ Aside0 (Below w.heap.size w w') ∧ w'.cell? ⟨B, 0, none⟩ = some (.slice A1 l1.length c1) ∧ w'.cell? ⟨B, 1, none⟩ = some (.slice A2 l2.length c2) ∧ ∃ xs : List Int, Aside0 (Kd.R (Kd.int .i64) 2 w' w.heap.size (fun _ => True) v6 xs) ∧ ((i = 0 ∧ [] = xs) ∨ (i = 1 ∧ l1 = xs) ∨ (i = 2 ∧ l1 ++ l2 = xs)))
      case atStart => exact ⟨0, by simp, ⟨by simp⟩, HB, hB_, hB2_, [], HRV, .inl ⟨rfl, rfl⟩⟩
      case round =>
        clear HB hB_ hB2_ HRV HK
        obtain ⟨i, rfl, HK, HB, hB_, hB2_, xs, HXS, hc⟩ := hrel
        rcases hc with ⟨rfl, rfl⟩ | ⟨rfl, rfl⟩ | ⟨rfl, rfl⟩
        · have hr_ := HXS.out
          obtain ⟨A_, c_, e_⟩ := Kd.R_slice hr_
          subst e_
          clear hr_
          go_wp2_with ((with_reducible refine gate_builtin (b := .append) (xs := #[.tmp 31, .tmp 32]) rfl ?_); at_builtin; refine Kd.R_append_rows (Kd.int .i64) (w0 := w) w.heap.size rfl (.tmp 31) (.tmp 32) 22 2 (.int .i64 0) 8 rfl Try.underlying22 info2 rfl (by decide) (by omega) _ [] l1 _ _ _ (fun _ => True) (fun _ => False) rfl rfl ?aO ?aR (fun _ _ h => h) (fun _ h => h.elim) ?aF ?aB ?aS ?aL ?_; (case aR => exact (Kd.C_below HR1.out HB.out)); (case aB => exact HB.out); (case aF => exact (fun _ _ => trivial)); (case aO => exact HXS.out); (case aS => exact below_size HB.out); (case aL => have := HL.out; (try simp only [List.length_nil]); omega); intro v1 w31 ho hb hg hat; have HBN := Aside0.mk hb; have HON := Aside0.mk ho; have hne_ := fun (e_ : some B = _) => (absurd (Kd.R_base HXS.out _ e_.symm) (Nat.not_le.2 HLT.out) : False); have q1_ := hg.cell hB_ hne_; have q2_ := hg.cell hB2_ hne_; clear hne_ hg hat ho hb)
          go_roundg 2
          case measure => have := HK.out; omega
          case rel => exact ⟨1, by simp, ⟨by simp⟩, HBN, q1_, q2_, _, HON, .inr (.inl ⟨rfl, by simp⟩)⟩
        · have hr_ := HXS.out
          obtain ⟨A_, c_, e_⟩ := Kd.R_slice hr_
          subst e_
          clear hr_
          go_wp2_with ((with_reducible refine gate_builtin (b := .append) (xs := #[.tmp 31, .tmp 32]) rfl ?_); at_builtin; refine Kd.R_append_rows (Kd.int .i64) (w0 := w) w.heap.size rfl (.tmp 31) (.tmp 32) 22 2 (.int .i64 0) 8 rfl Try.underlying22 info2 rfl (by decide) (by omega) _ l1 l2 _ _ _ (fun _ => True) (fun _ => False) rfl rfl ?aO ?aR (fun _ _ h => h) (fun _ h => h.elim) ?aF ?aB ?aS ?aL ?_; (case aR => exact (Kd.C_below HR2.out HB.out)); (case aB => exact HB.out); (case aF => exact (fun _ _ => trivial)); (case aO => exact HXS.out); (case aS => exact below_size HB.out); (case aL => have := HL.out; (try simp only [List.length_nil]); omega); intro v1 w31 ho hb hg hat; have HBN := Aside0.mk hb; have HON := Aside0.mk ho; have hne_ := fun (e_ : some B = _) => (absurd (Kd.R_base HXS.out _ e_.symm) (Nat.not_le.2 HLT.out) : False); have q1_ := hg.cell hB_ hne_; have q2_ := hg.cell hB2_ hne_; clear hne_ hg hat ho hb)
          go_roundg 1
          case measure => have := HK.out; omega
          case rel => exact ⟨2, by simp, ⟨by simp⟩, HBN, q1_, q2_, _, HON, .inr (.inr ⟨rfl, rfl⟩)⟩
        · go_wp2
          go_ret
          exact ⟨_, rfl, HXS.out, HB.out⟩
def fourier_Turn.g (l1 : List Int) (a2 : Int) : Option (List Int × Int) := if (l1.length : Int) = 0 then none else some (l1.drop (l1.length - (Int.tmod (wrap64 ((Int.tmod a2 (l1.length : Int)) + (l1.length : Int))) (l1.length : Int)).toNat) ++ l1.take (l1.length - (Int.tmod (wrap64 ((Int.tmod a2 (l1.length : Int)) + (l1.length : Int))) (l1.length : Int)).toNat), 0)
def fourier_Turn.f (k : Nat) (a0 : Int) (l1 : List Int) (a2 : Int) : Option (List Int × Int) := (fourier_Check.f k a0 l1).bind fun t304 => (if t304 = 0 then (if l1.length ≤ 1000000 then fourier_Turn.g l1 a2 else none) else (some (([] : List Int), t304)))
theorem fourier_Turn.mono : ∀ a0 a1 a2 k, LeO (fourier_Turn.f k a0 a1 a2) (fourier_Turn.f (k + 1) a0 a1 a2) := by
  intro a0 a1 a2 k
  unfold fourier_Turn.f
  refine LeO.bind (fourier_Check.mono _ _ _) (fun _ => LeO.ite (LeO.refl _) (LeO.refl _))
set_option maxHeartbeats 8000000 in
set_option maxRecDepth 100000 in
theorem fourier_Turn.calls (k : Nat) (a0 : Int) (A1 : Option Addr) (c1 : Nat) (l1 : List Int) (a2 : Int) (r1 : List Int) (r2 : Int) (w : World) (hr1 : Kd.C (Kd.int .i64) w A1 l1.length l1) (hc1 : l1.length ≤ c1) (h : fourier_Turn.f k a0 l1 a2 = some (r1, r2)) :
    Calls Try.prog 20 #[.int .i64 a0, .slice A1 l1.length c1, .int .i64 a2] w fun e w' => ∃ v0_ : Value, e = .returned (.tuple #[v0_, .int .i64 r2]) ∧ Kd.R (Kd.int .i64) 2 w' w.heap.size (fun _ => True) v0_ r1 ∧ Below w.heap.size w w' := by
  have HR1 := Aside0.mk hr1
  have HC1 := Aside0.mk hc1
  clear hr1 hc1
  have HB := Aside0.mk (Below.refl w.heap.size w)
  have H : ((fourier_Check.f k a0 l1).bind fun t304 => (if t304 = 0 then (if l1.length ≤ 1000000 then fourier_Turn.g l1 a2 else none) else (some (([] : List Int), t304)))) = some (r1, r2) := h
  clear h
  replace H := Option.bind_eq_some_iff.mp H
  obtain ⟨t304, A40, H⟩ := H
  replace H : (if t304 = 0 then (if l1.length ≤ 1000000 then fourier_Turn.g l1 a2 else none) else (some (([] : List Int), t304))) = some (r1, r2) := H
  have A4 := Aside0.mk A40
  clear A40
  by_cases c5 : t304 = 0
  rotate_left
  · rw [if_neg c5] at H
    have c5b0 : (t304 == 0) = false := beq_eq_false_iff_ne.mpr c5
    have c5b1 : (t304 != 0) = true := bne_iff_ne.mpr c5
    simp only [Option.some.injEq, Prod.mk.injEq] at H
    obtain ⟨rfl, rfl⟩ := H
    go_enter Try.func20, Try.ntmps20
    go_wp2_with (first | ((with_reducible refine gate_callee (f := 17) rfl ?_); refine goesL_ (some 12) rfl rfl Try.func17 (by kernel_rfl) rfl #[.int .i64 a0, .slice A1 l1.length c1] rfl (by (try simp only [List.map_toArray, List.map_cons, List.map_nil]); first | done | rfl | (simp only [List.length_drop, List.length_take]; rfl)) ?_; (with_reducible refine (fourier_Check.calls k a0 _ _ l1 t304 _ ?side1 ?side2 A4.out).mono ?_); (case side1 => repeat (first | exact HR1.out | (with_reducible refine Kd.C_alloc ?_ _) | (with_reducible refine Kd.C_drewN ?_ _) | (with_reducible refine Kd.C_drew ?_))); (case side2 => exact HC1.out); rintro e w22 ⟨rfl, hb⟩; refine ⟨_, rfl, ?_⟩; have n0_ := Aside0.mk (below_step (by repeat (first | (with_reducible first | exact HB.out | apply below_alloc | apply pw_below_drewN | apply below_drew1) | exact HB.out)) hb); clear HB; have HB := n0_; clear n0_; (try clear hb); (try clear hb2); (try clear hk); (try clear hi)))
    go_ret2
    exact ⟨_, by first | rfl | (simp [errW_none, errW_some] <;> rfl) | (simp [*, errW_none, errW_some] <;> rfl), by first | exact Kd.R_nil _ _ _ _ _ | exact Kd.N_nil _ _ _ _ _ | exact Kd.V_nil _ _ _ _ _ | exact Kd.Q_nil _ _ _ _ _ | exact Kd.S_nil _ _ _ _ _, by repeat (first | (with_reducible first | exact HB.out | apply below_alloc | apply pw_below_drewN | apply below_drew1) | exact HB.out)⟩
  rw [if_pos c5] at H
  have c5b0 : (t304 == 0) = true := beq_iff_eq.mpr c5
  have c5b1 : (t304 != 0) = false := bne_eq_false_iff_eq.mpr c5
  clear c5
  by_cases c6 : l1.length ≤ 1000000
  rotate_left
  · rw [if_neg c6] at H
    exact absurd H (by simp)
  rw [if_pos c6] at H
  unfold fourier_Turn.g at H
  by_cases c7 : (l1.length : Int) = 0
  · rw [if_pos c7] at H
    exact absurd H (by simp)
  rw [if_neg c7] at H
  have c7b0 : ((l1.length : Int) == 0) = false := beq_eq_false_iff_ne.mpr c7
  have c7b2 : ¬ (l1 = []) := fun h_ => c7 (by rw [h_]; rfl)
  have hd0 : 0 ≤ Int.tmod (wrap64 (Int.tmod a2 (l1.length : Int) + (l1.length : Int))) (l1.length : Int) := by
    refine Int.tmod_nonneg _ ?_
    have h1 := Int.tmod_lt_of_pos (-a2) (show (0 : Int) < l1.length by omega)
    have h2 := Int.tmod_lt_of_pos a2 (show (0 : Int) < l1.length by omega)
    rw [Int.neg_tmod] at h1
    unfold wrap64
    omega
  have hd1 := Int.tmod_lt_of_pos (wrap64 (Int.tmod a2 (l1.length : Int) + (l1.length : Int))) (show (0 : Int) < l1.length by omega)
  obtain ⟨dN, hd⟩ := Int.eq_ofNat_of_zero_le hd0
  rw [hd] at H hd1
  obtain ⟨m, hm⟩ : ∃ m : Nat, m = l1.length - dN := ⟨_, rfl⟩
  rw [Int.toNat_natCast, ← hm] at H
  have hm1 : m ≤ l1.length := by omega
  have hm2 : wrap64 ((l1.length : Int) - (dN : Int)) = (m : Int) := by unfold wrap64; omega
  simp only [Option.some.injEq, Prod.mk.injEq] at H
  obtain ⟨rfl, rfl⟩ := H
  have C6 := Aside0.mk c6
  have HD := Aside0.mk (⟨hd0, hd1, hm⟩ : _ ∧ _ ∧ _)
  have c8b0 := HC1.out
  have c9b0 : (0 : Int) ≤ (m : Int) := by omega
  have c9b1 : (m : Int) ≤ (l1.length : Int) := by omega
  have c9b2 : m ≤ c1 := by have := HC1.out; omega
  obtain ⟨ad, eA_, _⟩ := HR1.out.2.2 (by omega)
  subst eA_
  clear c6 hd0 hd1 hm c7
  go_enter Try.func20, Try.ntmps20
  go_wp2_with (first | ((with_reducible refine gate_callee (f := 17) rfl ?_); refine goesL_ (some 12) rfl rfl Try.func17 (by kernel_rfl) rfl #[.int .i64 a0, .slice (some ad) l1.length c1] rfl (by (try simp only [List.map_toArray, List.map_cons, List.map_nil]); first | done | rfl | (simp only [List.length_drop, List.length_take]; rfl)) ?_; (with_reducible refine (fourier_Check.calls k a0 _ _ l1 t304 _ ?side1 ?side2 A4.out).mono ?_); (case side1 => repeat (first | exact HR1.out | (with_reducible refine Kd.C_alloc ?_ _) | (with_reducible refine Kd.C_drewN ?_ _) | (with_reducible refine Kd.C_drew ?_))); (case side2 => exact HC1.out); rintro e w22 ⟨rfl, hb⟩; refine ⟨_, rfl, ?_⟩; have n0_ := Aside0.mk (below_step (by repeat (first | (with_reducible first | exact HB.out | apply below_alloc | apply pw_below_drewN | apply below_drew1) | exact HB.out)) hb); clear HB; have HB := n0_; clear n0_; (try clear hb); (try clear hb2); (try clear hk); (try clear hi)))
  refine start_ (n := 14) (S := fun _ => True) (ds := []) #[false, false, false, false, false, false, false, false, false, false, false, false, false, false] (by kernel_rfl) rfl rfl trivial (fun hHeld => ?_)
  refine pure_ (i := 0) (N := some 25) (v := ?_) (a' := ?_) #[true, false, false, false, false, false, false, false, false, false, false, false, false, false] rfl rfl (by kernel_rfl) (fun _ _ _ h => h) (Or.inl ⟨by rfl, ?_⟩) ?_ ?_
  rotate_left
  · intro w'
    go_simp
    with_reducible rfl
  rotate_left
  · simp only [Act.put, List.setIfInBounds_toArray, List.set_cons_zero, List.set_cons_succ, i64_w, i32_w]
    rfl
  refine pure_ (i := 1) (N := some 26) (v := ?_) (a' := ?_) #[true, true, false, false, false, false, false, false, false, false, false, false, false, false] rfl rfl (by kernel_rfl) (fun _ _ _ h => h) (Or.inl ⟨by rfl, ?_⟩) ?_ ?_
  rotate_left
  · intro w'
    go_simp
    with_reducible rfl
  rotate_left
  · simp only [Act.put, List.setIfInBounds_toArray, List.set_cons_zero, List.set_cons_succ, i64_w, i32_w]
    rfl
  refine pure_ (i := 2) (N := some 27) (v := ?_) (a' := ?_) #[true, true, true, false, false, false, false, false, false, false, false, false, false, false] rfl rfl (by kernel_rfl) (fun _ _ _ h => h) (Or.inl ⟨by rfl, ?_⟩) ?_ ?_
  rotate_left
  · intro w'
    go_simp
    with_reducible rfl
  rotate_left
  · simp only [Act.put, List.setIfInBounds_toArray, List.set_cons_zero, List.set_cons_succ, i64_w, i32_w]
    rfl
  refine pure_ (i := 5) (N := some 30) (v := ?_) (a' := ?_) #[true, true, true, false, false, true, false, false, false, false, false, false, false, false] rfl rfl (by kernel_rfl) (fun _ _ _ h => h) (Or.inl ⟨by rfl, ?_⟩) ?_ ?_
  rotate_left
  · intro w'
    go_simp
    with_reducible rfl
  rotate_left
  · simp only [Act.put, List.setIfInBounds_toArray, List.set_cons_zero, List.set_cons_succ, i64_w, i32_w]
    rfl
  refine pure_ (i := 6) (N := some 31) (v := ?_) (a' := ?_) #[true, true, true, false, false, true, true, false, false, false, false, false, false, false] rfl rfl (by kernel_rfl) (fun _ _ _ h => h) (Or.inl ⟨by rfl, ?_⟩) ?_ ?_
  rotate_left
  · intro w'
    go_simp
    with_reducible rfl
  rotate_left
  · simp only [Act.put, List.setIfInBounds_toArray, List.set_cons_zero, List.set_cons_succ, i64_w, i32_w]
    rfl
  refine pure_ (i := 7) (N := some 32) (v := ?_) (a' := ?_) #[true, true, true, false, false, true, true, true, false, false, false, false, false, false] rfl rfl (by kernel_rfl) (fun _ _ _ h => h) (Or.inl ⟨by rfl, ?_⟩) ?_ ?_
  rotate_left
  · intro w'
    go_simp
    with_reducible rfl
  rotate_left
  · simp only [Act.put, List.setIfInBounds_toArray, List.set_cons_zero, List.set_cons_succ, i64_w, i32_w]
    rfl
  refine pure_ (i := 3) (N := some 28) (v := ?_) (a' := ?_) #[true, true, true, true, false, true, true, true, false, false, false, false, false, false] rfl rfl (by kernel_rfl) (fun _ _ _ h => h) (Or.inl ⟨by rfl, ?_⟩) ?_ ?_
  rotate_left
  · intro w'
    go_simp
    with_reducible rfl
  rotate_left
  · simp only [Act.put, List.setIfInBounds_toArray, List.set_cons_zero, List.set_cons_succ, i64_w, i32_w]
    rfl
  refine pure_ (i := 8) (N := some 33) (v := ?_) (a' := ?_) #[true, true, true, true, false, true, true, true, true, false, false, false, false, false] rfl rfl (by kernel_rfl) (fun _ _ _ h => h) (Or.inl ⟨by rfl, ?_⟩) ?_ ?_
  rotate_left
  · intro w'
    go_simp
    with_reducible rfl
  rotate_left
  · simp only [Act.put, List.setIfInBounds_toArray, List.set_cons_zero, List.set_cons_succ, i64_w, i32_w]
    rfl
  refine pure_ (i := 4) (N := some 29) (v := ?_) (a' := ?_) #[true, true, true, true, true, true, true, true, true, false, false, false, false, false] rfl rfl (by kernel_rfl) (fun _ _ _ h => h) (Or.inl ⟨by rfl, ?_⟩) ?_ ?_
  rotate_left
  · intro w'
    go_simp
    with_reducible rfl
  rotate_left
  · simp only [Act.put, List.setIfInBounds_toArray, List.set_cons_zero, List.set_cons_succ, i64_w, i32_w]
    rfl
  refine pure_ (i := 9) (N := some 34) (v := ?_) (a' := ?_) #[true, true, true, true, true, true, true, true, true, true, false, false, false, false] rfl rfl (by kernel_rfl) (fun _ _ _ h => h) (Or.inl ⟨by rfl, ?_⟩) ?_ ?_
  rotate_left
  · intro w'
    go_simp
    with_reducible rfl
  rotate_left
  · simp only [Act.put, List.setIfInBounds_toArray, List.set_cons_zero, List.set_cons_succ, i64_w, i32_w]
    rfl
  refine one_ (i := 10) (N := some 35) #[true, true, true, true, true, true, true, true, true, true, true, false, false, false] rfl rfl (by kernel_rfl) (by decide) (fun K hK => ?_)
  refine event_step (w1 := w22.drew.alloc (.cells #[.slice (if c1 = m then some ad else some (ad.add m)) (l1.length - m) (c1 - m), .slice (some ad) m c1] 22)) (v := .slice (some ⟨w22.heap.size, 0, none⟩) 2 2) (by rfl) ?_ ?_
  · go_simp
  refine hK.out _ _ trivial (fun hHeld => ?_)
  clear hK K
  refine norm_ (a' := ?_) ?_ ?_
  rotate_left
  · show Act.put _ (some 35) _ = _
    simp only [Act.put, List.setIfInBounds_toArray, List.set_cons_zero, List.set_cons_succ, i64_w, i32_w]
    rfl
  refine one_ (i := 11) (N := some 36) #[true, true, true, true, true, true, true, true, true, true, true, true, false, false] rfl rfl (by kernel_rfl) (by decide) (fun K hK => ?_)
  refine goes_ Try.func41 (by kernel_rfl) rfl #[.slice (some ⟨w22.heap.size, 0, none⟩) 2 2] (by rfl) rfl rfl (by (try simp only [List.map_toArray, List.map_cons, List.map_nil]); first | done | rfl) ?_
  have hcd_ := Kd.C_drop (c := c1) (Kd.C_alloc (Kd.C_drew (Kd.C_below HR1.out HB.out)) (.cells #[.slice (if c1 = m then some ad else some (ad.add m)) (l1.length - m) (c1 - m), .slice (some ad) m c1] 22)) hm1 HC1.out
  have hct_ := Kd.C_take (Kd.C_alloc (Kd.C_drew (Kd.C_below HR1.out HB.out)) (.cells #[.slice (if c1 = m then some ad else some (ad.add m)) (l1.length - m) (c1 - m), .slice (some ad) m c1] 22)) hm1
  rw [Option.map_some, show m * (Kd.int .i64).sz = m from Nat.mul_one m] at hcd_
  have hcd2_ : (if c1 = m then some ad else some (ad.add m)) = (if c1 = m then some ad else some (ad.add m)) := rfl
  have hw_ : w22.heap.size = w22.drew.heap.size := rfl
  have hl_ : (l1.drop m).length + (l1.take m).length ≤ 1000000 := by rw [List.length_drop, List.length_take]; have := C6.out; omega
  have hx_ := fourier_Turn.concat (if c1 = m then some ad else some (ad.add m)) (some ad) (c1 - m) c1 (l1.drop m) (l1.take m) w22.heap.size _ (by rw [List.length_drop, hw_, World.cell?_alloc_new]; rfl) (by rw [List.length_take, Nat.min_eq_left hm1, hw_, World.cell?_alloc_new]; rfl) hcd_ hct_ hl_
  refine hx_.mono ?_
  clear hx_ hcd_ hct_ hw_ hl_ hcd2_
  rintro e w1 ⟨v, rfl, hr_, hb_⟩
  have hB1_ := below_step (below_alloc (below_drew HB.out) (.cells #[.slice (if c1 = m then some ad else some (ad.add m)) (l1.length - m) (c1 - m), .slice (some ad) m c1] 22)) hb_
  have HB1 := Aside0.mk hB1_
  have HRV := Aside0.mk (Kd.R_lower hr_ (below_size (below_alloc (below_drew HB.out) (.cells #[.slice (if c1 = m then some ad else some (ad.add m)) (l1.length - m) (c1 - m), .slice (some ad) m c1] 22))))
  clear hr_ hb_ hB1_
  refine ⟨_, rfl, ?_⟩
  refine hK.out _ _ trivial (fun hHeld => ?_)
  clear hK K
  refine norm_ (a' := ?_) ?_ ?_
  rotate_left
  · show Act.put _ (some 36) _ = _
    simp only [Act.put, List.setIfInBounds_toArray, List.set_cons_zero, List.set_cons_succ, i64_w, i32_w]
    rfl
  refine pure_ (i := 12) (N := some 6) (v := ?_) (a' := ?_) #[true, true, true, true, true, true, true, true, true, true, true, true, true, false] rfl rfl (by kernel_rfl) (fun _ _ _ h => h) (Or.inl ⟨by rfl, ?_⟩) ?_ ?_
  rotate_left
  · intro w'
    go_simp
    with_reducible rfl
  rotate_left
  · simp only [Act.put, List.setIfInBounds_toArray, List.set_cons_zero, List.set_cons_succ, i64_w, i32_w]
    rfl
  refine pure_ (i := 13) (N := some 7) (v := ?_) (a' := ?_) #[true, true, true, true, true, true, true, true, true, true, true, true, true, true] rfl rfl (by kernel_rfl) (fun _ _ _ h => h) (Or.inl ⟨by rfl, ?_⟩) ?_ ?_
  rotate_left
  · intro w'
    go_simp
    with_reducible rfl
  rotate_left
  · simp only [Act.put, List.setIfInBounds_toArray, List.set_cons_zero, List.set_cons_succ, i64_w, i32_w]
    rfl
  refine done_ (by kernel_rfl) ?_
  go_wp2
  all_goals (go_ret2; exact ⟨_, rfl, HRV.out, HB1.out⟩)

/-! ### slices_Clone_int64_int64: function 44 -/
def slices_Clone_int64_int64.f (l0 : List Int) : Option (List Int) := (some (([] : List Int) : List Int)).bind fun y283 => (if y283.length + l0.length < 17592186044416 then (some (y283 ++ l0)) else (none))
set_option maxHeartbeats 8000000 in
set_option maxRecDepth 100000 in
theorem slices_Clone_int64_int64.calls (A0 : Option Addr) (c0 : Nat) (l0 : List Int) (r : List Int) (w : World) (hr0 : Kd.C (Kd.int .i64) w A0 l0.length l0) (hc0 : l0.length ≤ c0) (h : slices_Clone_int64_int64.f l0 = some r) :
    Calls Try.prog 44 #[.slice A0 l0.length c0] w fun e w' => ∃ v0_ : Value, e = .returned (v0_) ∧ Kd.R (Kd.int .i64) 2 w' w.heap.size (fun _ => True) v0_ r ∧ Below w.heap.size w w' := by
  have HR0 := Aside0.mk hr0
  have HC0 := Aside0.mk hc0
  clear hr0 hc0
  have HB := Aside0.mk (Below.refl w.heap.size w)
  have H : ((some (([] : List Int) : List Int)).bind fun y283 => (if y283.length + l0.length < 17592186044416 then (some (y283 ++ l0)) else (none))) = some r := h
  clear h
  obtain ⟨y283, hy283⟩ : ∃ y_ : List Int, y_ = (([] : List Int)) := ⟨_, rfl⟩
  replace H : (if y283.length + l0.length < 17592186044416 then (some (y283 ++ l0)) else (none)) = some r := by first | (rw [hy283]; with_reducible exact H) | (have H2_ := (Option.bind_some _ _).symm.trans H; rw [hy283]; with_reducible exact H2_) | (have H2_ := (Option.bind_some _ _).symm.trans H; with_reducible exact H2_) | with_reducible exact H | (rw [hy283]; exact H) | exact H
  have Ny283 := Aside0.mk hy283
  clear hy283
  by_cases c2 : y283.length + l0.length < 17592186044416
  rotate_left
  · rw [if_neg c2] at H
    exact absurd H (by simp)
  rw [if_pos c2] at H
  have LMc2 := Aside0.mk c2
  clear c2
  obtain ⟨y286, hy286⟩ : ∃ y_ : List Int, y_ = (y283 ++ l0) := ⟨_, rfl⟩
  replace H : (some y286) = some r := by first | (rw [hy286]; with_reducible exact H) | (have H2_ := (Option.bind_some _ _).symm.trans H; rw [hy286]; with_reducible exact H2_) | (have H2_ := (Option.bind_some _ _).symm.trans H; with_reducible exact H2_) | with_reducible exact H | (rw [hy286]; exact H) | exact H
  have Ny286 := Aside0.mk hy286
  clear hy286
  obtain rfl := Option.some.inj H
  rcases A0 with _ | adA
  · have hl0 : l0 = [] := List.eq_nil_of_length_eq_zero (by
      obtain ⟨_, _, hh⟩ := HR0.out
      rcases Nat.eq_zero_or_pos l0.length with z | z
      · exact z
      · obtain ⟨ad, e, _⟩ := hh z; cases e)
    have hr_ : y286 = [] := by rw [Ny286.out, Ny283.out, hl0]; rfl
    have HR_ := Aside0.mk hr_
    clear hl0 hr_
    have qT : ∀ w' n c, (binOp .eql 22 (.slice none n c) (.slice none 0 0)).run Try.prog w' = .ok (.bool true) w' := fun w' n c => Go.Lib.run_eql_slice_nil w' 22 2 none n c 0 0 Try.underlying22
    go_enter Try.func44, Try.ntmps44
    go_wp2
    go_ret
    exact ⟨_, rfl, by rw [HR_.out]; exact Kd.R_nil _ _ _ _ _, Below.refl _ _⟩
  · have qT : ∀ w' n c, (binOp .eql 22 (.slice (some adA) n c) (.slice none 0 0)).run Try.prog w' = .ok (.bool false) w' := fun w' n c => Go.Lib.run_eql_slice_nil w' 22 2 (some adA) n c 0 0 Try.underlying22
    go_enter Try.func44, Try.ntmps44
    go_wp2_with (first | ((with_reducible refine gate_dst (N := 5) rfl ?_); refine Kd.R_lit (Kd.int .i64) _ 2 ?hg (N := 5) ?hd (xs := ([] : List Int)) (inner := []) (ok := fun _ => True) (okp := fun _ => True) ?hr ?hp (fun _ hk => hk) trivial (Below.refl _ _) (Nat.le_refl _) (by simp) ?_; (case hd => rfl); (case hg => rfl); (case hr => first | (go_simp; done) | (go_simp; rfl)); (case hp => exact (Reps.none _ _)); intro v284 w3 ho4 hb hg_ hnew_; clear hg_ hnew_; (first | rw [← Ny283.out] at ho4 | (simp only [Int.reduceToNat] at ho4; rw [← Ny283.out] at ho4)); have n0_ := Aside0.mk (Kd.R_lower ho4 (below_size (by repeat (first | (with_reducible first | exact HB.out | apply below_alloc | apply pw_below_drewN | apply below_drew1) | exact HB.out)))); have n1_ := Aside0.mk (below_step (by repeat (first | (with_reducible first | exact HB.out | apply below_alloc | apply pw_below_drewN | apply below_drew1) | exact HB.out)) hb); clear HB; have HO285 := n0_; have HB := n1_; clear n0_ n1_; clear hb ho4) | ((with_reducible refine gate_builtin (b := .append) (xs := #[.tmp 5, .tmp 6]) rfl ?_); at_builtin; refine Kd.R_append_rows (Kd.int .i64) (w0 := w) w.heap.size rfl (.tmp 5) (.tmp 6) 22 2 (.int .i64 0) 8 rfl Try.underlying22 info2 rfl (by decide) (by omega) v284 y283 l0 _ _ _ (fun _ => True) (fun _ => False) rfl rfl ?aO ?aR (fun _ _ h => h) (fun _ h => h.elim) ?aF ?aB ?aS ?aL ?_; (case aR => repeat (first | exact (Kd.C_below HR0.out HB.out) | (with_reducible refine Kd.C_alloc ?_ _) | (with_reducible refine Kd.C_drewN ?_ _) | (with_reducible refine Kd.C_drew ?_))); (case aB => exact (by repeat (first | (with_reducible first | exact HB.out | apply below_alloc | apply pw_below_drewN | apply below_drew1) | exact HB.out))); (case aF => exact (fun _ _ => trivial)); (case aO => exact (by (with_reducible repeat (first | apply Kd.R_alloc | apply Kd.R_drewN | apply Kd.R_drew)); exact HO285.out)); (case aS => exact (below_size (by repeat (first | (with_reducible first | exact HB.out | apply below_alloc | apply pw_below_drewN | apply below_drew1) | exact HB.out)))); (case aL => have := LMc2.out; omega); intro v287 w5 ho hb hg hat; rw [← Ny286.out] at ho; have n0_ := Aside0.mk (hb); have n1_ := Aside0.mk (ho); clear HB; clear HO285; have HB := n0_; have HO288 := n1_; clear n0_ n1_; clear ho hb hg hat))
    go_ret
    exact ⟨_, by first | rfl | (simp [errW_none, errW_some] <;> rfl) | (simp [*, errW_none, errW_some] <;> rfl), by (with_reducible repeat (first | apply Kd.R_alloc | apply Kd.R_drewN | apply Kd.R_drew)); exact HO288.out, by repeat (first | (with_reducible first | exact HB.out | apply below_alloc | apply pw_below_drewN | apply below_drew1) | exact HB.out)⟩

/-! ### fourier_Signed: function 24 -/
def fourier_Signed.l0 : Nat → Int → List Int → Int → Int → Option (List Int × Int)
  | 0, _, _, _, _ => none
  | k + 1, x0, x7, x19, x20 => if x20 < x19 then (if 0 ≤ x20 then (if x20 < (x7.length : Int) then (if (rd x7 x20) > (wrap64 (Int.tdiv x0 2)) then (fourier_Signed.l0 k x0 (x7.set (x20 : Int).toNat (wrap64 ((rd x7 x20) - x0))) x19 (wrap64 (x20 + 1))) else (fourier_Signed.l0 k x0 x7 x19 (wrap64 (x20 + 1)))) else (none)) else (none)) else (some (x7, 0))
def fourier_Signed.f (k : Nat) (a0 : Int) (l1 : List Int) : Option (List Int × Int) := (fourier_Check.f k a0 l1).bind fun t310 => (if t310 = 0 then ((slices_Clone_int64_int64.f l1).bind fun t311 => (fourier_Signed.l0 k a0 t311 (t311.length : Int) 0)) else (some (([] : List Int), t310)))
theorem fourier_Signed.mono_l : ∀ k, (∀ y0 y1 y2 y3, LeO (fourier_Signed.l0 k y0 y1 y2 y3) (fourier_Signed.l0 (k + 1) y0 y1 y2 y3))
  | 0 => fun _ _ _ _ r h => by simp [fourier_Signed.l0] at h
  | k + 1 => by
    have ih0 := fourier_Signed.mono_l k
    · intro y0 y1 y2 y3
      unfold fourier_Signed.l0
      repeat' first
      | (with_reducible exact ih0 _ _ _ _)
      | (with_reducible exact fourier_Check.mono _ _ _)
      | (with_reducible exact LeO.refl _)
      | (with_reducible exact LeO.none _)
      | (with_reducible refine LeO.ite ?_ ?_)
      | (with_reducible refine LeO.bind ?_ (fun _ => ?_))
      | exact ih0 _ _ _ _
      | exact fourier_Check.mono _ _ _
      | exact LeO.none _
      | refine LeO.ite ?_ ?_
      | refine LeO.bind ?_ (fun _ => ?_)
theorem fourier_Signed.mono : ∀ a0 a1 k, LeO (fourier_Signed.f k a0 a1) (fourier_Signed.f (k + 1) a0 a1) := by
  intro a0 a1 k
  have ih0 := fourier_Signed.mono_l k
  unfold fourier_Signed.f
  repeat' first
      | (with_reducible exact ih0 _ _ _ _)
      | (with_reducible exact fourier_Check.mono _ _ _)
      | (with_reducible exact LeO.refl _)
      | (with_reducible exact LeO.none _)
      | (with_reducible refine LeO.ite ?_ ?_)
      | (with_reducible refine LeO.bind ?_ (fun _ => ?_))
      | exact ih0 _ _ _ _
      | exact fourier_Check.mono _ _ _
      | exact LeO.none _
      | refine LeO.ite ?_ ?_
      | refine LeO.bind ?_ (fun _ => ?_)
set_option maxHeartbeats 8000000 in
set_option maxRecDepth 100000 in
theorem fourier_Signed.calls (k : Nat) (a0 : Int) (A1 : Option Addr) (c1 : Nat) (l1 : List Int) (r1 : List Int) (r2 : Int) (w : World) (hr1 : Kd.C (Kd.int .i64) w A1 l1.length l1) (hc1 : l1.length ≤ c1) (h : fourier_Signed.f k a0 l1 = some (r1, r2)) :
    Calls Try.prog 24 #[.int .i64 a0, .slice A1 l1.length c1] w fun e w' => ∃ v0_ : Value, e = .returned (.tuple #[v0_, .int .i64 r2]) ∧ Kd.R (Kd.int .i64) 2 w' w.heap.size (fun _ => True) v0_ r1 ∧ Below w.heap.size w w' := by
  have HR1 := Aside0.mk hr1
  have HC1 := Aside0.mk hc1
  clear hr1 hc1
  have HB := Aside0.mk (Below.refl w.heap.size w)
  have H : ((fourier_Check.f k a0 l1).bind fun t310 => (if t310 = 0 then ((slices_Clone_int64_int64.f l1).bind fun t311 => (fourier_Signed.l0 k a0 t311 (t311.length : Int) 0)) else (some (([] : List Int), t310)))) = some (r1, r2) := h
  clear h
  replace H := Option.bind_eq_some_iff.mp H
  obtain ⟨t310, A30, H⟩ := H
  replace H : (if t310 = 0 then ((slices_Clone_int64_int64.f l1).bind fun t311 => (fourier_Signed.l0 k a0 t311 (t311.length : Int) 0)) else (some (([] : List Int), t310))) = some (r1, r2) := H
  have A3 := Aside0.mk A30
  clear A30
  by_cases c4 : t310 = 0
  rotate_left
  · rw [if_neg c4] at H
    have c4b0 : (t310 == 0) = false := beq_eq_false_iff_ne.mpr c4
    have c4b1 : (t310 != 0) = true := bne_iff_ne.mpr c4
    simp only [Option.some.injEq, Prod.mk.injEq] at H
    obtain ⟨rfl, rfl⟩ := H
    go_enter Try.func24, Try.ntmps24
    go_wp2_with (first | ((with_reducible refine gate_callee (f := 17) rfl ?_); refine goesL_ (some 12) rfl rfl Try.func17 (by kernel_rfl) rfl #[.int .i64 a0, .slice A1 l1.length c1] rfl (by (try simp only [List.map_toArray, List.map_cons, List.map_nil]); first | done | rfl | (simp only [List.length_drop, List.length_take]; rfl)) ?_; (with_reducible refine (fourier_Check.calls k a0 _ _ l1 t310 _ ?side1 ?side2 A3.out).mono ?_); (case side1 => repeat (first | exact HR1.out | (with_reducible refine Kd.C_alloc ?_ _) | (with_reducible refine Kd.C_drewN ?_ _) | (with_reducible refine Kd.C_drew ?_))); (case side2 => exact HC1.out); rintro e w16 ⟨rfl, hb⟩; refine ⟨_, rfl, ?_⟩; have n0_ := Aside0.mk (below_step (by repeat (first | (with_reducible first | exact HB.out | apply below_alloc | apply pw_below_drewN | apply below_drew1) | exact HB.out)) hb); clear HB; have HB := n0_; clear n0_; (try clear hb); (try clear hb2); (try clear hk); (try clear hi)))
    go_ret2
    exact ⟨_, by first | rfl | (simp [errW_none, errW_some] <;> rfl) | (simp [*, errW_none, errW_some] <;> rfl), by first | exact Kd.R_nil _ _ _ _ _ | exact Kd.N_nil _ _ _ _ _ | exact Kd.V_nil _ _ _ _ _ | exact Kd.Q_nil _ _ _ _ _ | exact Kd.S_nil _ _ _ _ _, by repeat (first | (with_reducible first | exact HB.out | apply below_alloc | apply pw_below_drewN | apply below_drew1) | exact HB.out)⟩
  rw [if_pos c4] at H
  have c4b0 : (t310 == 0) = true := beq_iff_eq.mpr c4
  have c4b1 : (t310 != 0) = false := bne_eq_false_iff_eq.mpr c4
  clear c4
  replace H := Option.bind_eq_some_iff.mp H
  obtain ⟨t311, A50, H⟩ := H
  replace H : (fourier_Signed.l0 k a0 t311 (t311.length : Int) 0) = some (r1, r2) := H
  have A5 := Aside0.mk A50
  clear A50
  have H' := Aside0.mk H
  clear H
  go_enter Try.func24, Try.ntmps24
  go_wp2_with (first | ((with_reducible refine gate_callee (f := 17) rfl ?_); refine goesL_ (some 12) rfl rfl Try.func17 (by kernel_rfl) rfl #[.int .i64 a0, .slice A1 l1.length c1] rfl (by (try simp only [List.map_toArray, List.map_cons, List.map_nil]); first | done | rfl | (simp only [List.length_drop, List.length_take]; rfl)) ?_; (with_reducible refine (fourier_Check.calls k a0 _ _ l1 t310 _ ?side1 ?side2 A3.out).mono ?_); (case side1 => repeat (first | exact HR1.out | (with_reducible refine Kd.C_alloc ?_ _) | (with_reducible refine Kd.C_drewN ?_ _) | (with_reducible refine Kd.C_drew ?_))); (case side2 => exact HC1.out); rintro e w6 ⟨rfl, hb⟩; refine ⟨_, rfl, ?_⟩; have n0_ := Aside0.mk (below_step (by repeat (first | (with_reducible first | exact HB.out | apply below_alloc | apply pw_below_drewN | apply below_drew1) | exact HB.out)) hb); clear HB; have HB := n0_; clear n0_; (try clear hb); (try clear hb2); (try clear hk); (try clear hi)) | ((with_reducible refine gate_callee (f := 44) rfl ?_); refine goesL_ (some 17) rfl rfl Try.func44 (by kernel_rfl) rfl #[.slice A1 l1.length c1] rfl (by (try simp only [List.map_toArray, List.map_cons, List.map_nil]); first | done | rfl | (simp only [List.length_drop, List.length_take]; rfl)) ?_; (with_reducible refine (slices_Clone_int64_int64.calls _ _ l1 t311 _ ?side1 ?side2 A5.out).mono ?_); (case side1 => repeat (first | exact (Kd.C_below HR1.out HB.out) | (with_reducible refine Kd.C_alloc ?_ _) | (with_reducible refine Kd.C_drewN ?_ _) | (with_reducible refine Kd.C_drew ?_))); (case side2 => exact HC1.out); rintro e w7 ⟨v312, rfl, ho0, hb⟩; refine ⟨_, rfl, ?_⟩; have n0_ := Aside0.mk (Kd.R_lower ho0 (below_size (by repeat (first | (with_reducible first | exact HB.out | apply below_alloc | apply pw_below_drewN | apply below_drew1) | exact HB.out)))); have n1_ := Aside0.mk (below_step (by repeat (first | (with_reducible first | exact HB.out | apply below_alloc | apply pw_below_drewN | apply below_drew1) | exact HB.out)) hb); clear HB; have HO313 := n0_; have HB := n1_; clear n0_ n1_; (try clear hb); (try clear hb2); (try clear hk); (try clear hi); (try clear ho0); obtain ⟨Ao8, co8, eo8⟩ := Kd.R_slice HO313.out; subst eo8))
  go_loopg [20] k (fun kq v20 w' => ∃ (x7_1 : List Int) (x20_1 : Int), v20 = .int .i64 x20_1 ∧ Aside0 (fourier_Signed.l0 kq a0 x7_1 (t311.length : Int) x20_1 = some (r1, r2)) ∧ Aside0 (kq ≤ k) ∧ Aside0 (Kd.R (Kd.int .i64) 2 w' w.heap.size (fun _ => True) (.slice Ao8 t311.length co8) x7_1) ∧ Aside0 (Below w.heap.size w w'))
  case atStart => exact ⟨(t311), (0), (by first | rfl | (simp; done) | (simp [*]; done) | (simp [i64_w]; done)), H', ⟨Nat.le_refl _⟩, ⟨by (with_reducible repeat (first | apply Kd.R_alloc | apply Kd.R_drewN | apply Kd.R_drew)); exact HO313.out⟩, ⟨by repeat (first | (with_reducible first | exact HB.out | apply below_alloc | apply pw_below_drewN | apply below_drew1) | exact HB.out)⟩⟩
  case round =>
    clear H'
    try clear c1
    try clear c2
    try clear p2
    try clear c4
    try clear c4b0
    try clear c4b1
    obtain ⟨x7_1, x20_1, rfl, HA, HK1, HO_7, HB⟩ := hrel
    have hl7_1 := (Kd.R_reads' HO_7.out).1
    rw [hl7_1] at HO_7
    (try simp only [hl7_1])
    cases gk with
    | zero => exact absurd HA.out (by simp [fourier_Signed.l0])
    | succ k1 =>
      have H := HA.out
      clear HA
      simp only [fourier_Signed.l0] at H
      by_cases c9 : x20_1 < (t311.length : Int)
      rotate_left
      · rw [if_neg c9] at H
        have c9b0 : decide (x20_1 < (t311.length : Int)) = false := decide_eq_false c9
        (try rw [hl7_1] at c9b0)
        clear c9
        simp only [Option.some.injEq, Prod.mk.injEq] at H
        obtain ⟨rfl, rfl⟩ := H
        go_wp2
        go_ret2
        exact ⟨_, by first | rfl | (simp [errW_none, errW_some] <;> rfl) | (simp [*, errW_none, errW_some] <;> rfl), by (with_reducible repeat (first | apply Kd.R_alloc | apply Kd.R_drewN | apply Kd.R_drew)); exact HO_7.out, by repeat (first | (with_reducible first | exact HB.out | apply below_alloc | apply pw_below_drewN | apply below_drew1) | exact HB.out)⟩
      rw [if_pos c9] at H
      have c9b0 : decide (x20_1 < (t311.length : Int)) = true := decide_eq_true c9
      (try rw [hl7_1] at c9b0)
      clear c9
      by_cases c10 : 0 ≤ x20_1
      rotate_left
      · rw [if_neg c10] at H
        exact absurd H (by simp)
      rw [if_pos c10] at H
      have c10b0 : decide (0 ≤ x20_1) = true := decide_eq_true c10
      clear c10
      by_cases c11 : x20_1 < (x7_1.length : Int)
      rotate_left
      · rw [if_neg c11] at H
        exact absurd H (by simp)
      rw [if_pos c11] at H
      have c11b0 : decide (x20_1 < (x7_1.length : Int)) = true := decide_eq_true c11
      clear c11
      by_cases c12 : (rd x7_1 x20_1) > (wrap64 (Int.tdiv a0 2))
      rotate_left
      · rw [if_neg c12] at H
        have c12b0 : decide ((wrap64 (Int.tdiv a0 2)) < (rd x7_1 x20_1)) = false := decide_eq_false c12
        clear c12
        have H' := Aside0.mk H
        clear H
        have p314 : 0 ≤ (x20_1 : Int) := of_decide_eq_true (by first | (with_reducible assumption) | assumption)
        have q314 : x20_1 < (x7_1.length : Int) := of_decide_eq_true (by first | (with_reducible assumption) | assumption)
        obtain ⟨ad314, e314, hx314_0⟩ := Kd.at_int (Kd.R_reads' HO_7.out).2.2 x20_1 p314 q314
        cases e314
        replace p314 := eq_true p314
        replace q314 := eq_true q314
        go_wp2
        (try simp only [← hl7_1])
        go_roundg k1
        case measure => have := HK1.out; omega
        case rel => exact ⟨(x7_1), (wrap64 (x20_1 + 1)), (by first | rfl | (simp; done) | (simp [*]; done) | (simp [i64_w]; done)), H', ⟨by have := HK1.out; omega⟩, ⟨by (try simp only [hl7_1]); (with_reducible repeat (first | apply Kd.R_alloc | apply Kd.R_drewN | apply Kd.R_drew)); exact HO_7.out⟩, ⟨by repeat (first | (with_reducible first | exact HB.out | apply below_alloc | apply pw_below_drewN | apply below_drew1) | exact HB.out)⟩⟩
      rw [if_pos c12] at H
      have c12b0 : decide ((wrap64 (Int.tdiv a0 2)) < (rd x7_1 x20_1)) = true := decide_eq_true c12
      clear c12
      obtain ⟨y315, hy315⟩ : ∃ y_ : List Int, y_ = (x7_1.set (x20_1 : Int).toNat (wrap64 ((rd x7_1 x20_1) - a0))) := ⟨_, rfl⟩
      replace H : (fourier_Signed.l0 k1 a0 y315 (t311.length : Int) (wrap64 (x20_1 + 1))) = some (r1, r2) := by first | (rw [hy315]; with_reducible exact H) | (have H2_ := (Option.bind_some _ _).symm.trans H; rw [hy315]; with_reducible exact H2_) | (have H2_ := (Option.bind_some _ _).symm.trans H; with_reducible exact H2_) | with_reducible exact H | (rw [hy315]; exact H) | exact H
      have Ny315 := Aside0.mk hy315
      clear hy315
      have H' := Aside0.mk H
      clear H
      have p314 : 0 ≤ (x20_1 : Int) := of_decide_eq_true (by first | (with_reducible assumption) | assumption)
      have q314 : x20_1 < (x7_1.length : Int) := of_decide_eq_true (by first | (with_reducible assumption) | assumption)
      obtain ⟨ad314, e314, hx314_0⟩ := Kd.at_int (Kd.R_reads' HO_7.out).2.2 x20_1 p314 q314
      cases e314
      replace p314 := eq_true p314
      replace q314 := eq_true q314
      have p13 : 0 ≤ (x20_1 : Int) := of_decide_eq_true (by first | (with_reducible assumption) | assumption)
      have q13 : (x20_1 : Int) < ((x7_1.length : Int) : Int) := of_decide_eq_true (by first | (with_reducible assumption) | assumption)
      obtain ⟨go13, co13, eo13, gb13, gl13, cl13, HG13⟩ := Kd.R_form HO_7.out (by omega)
      (first | cases eo13 | (injection eo13 with ea_ en_ ec_; (first | subst ea_ | (injection ea_ with ea_; subst ea_)); subst ec_; clear en_))
      have GB13 := Aside0.mk gb13
      have GG13 := Aside0.mk HG13
      clear gb13 gl13 HG13
      (first | simp only [add_plain] at hx314_0 | skip)
      obtain ⟨hx13_0, hf13_0⟩ := Kd.R_celln 0 HO_7.out (x20_1 : Int) p13 q13
      replace p13 := eq_true p13
      replace q13 := eq_true q13
      have HP14 := Kd.R_putg HO_7.out (x20_1 : Int) (wrap64 ((rd x7_1 x20_1) - a0))
      go_wp2_with (first | ((with_reducible refine gate_store (t := 2) (p := 34) rfl ?_); refine store_event (t := 2) (p := 34) (v := ?vo_w15) (w1 := (wr.setCell ⟨go13, (x20_1 : Int).toNat, none⟩ (.int .i64 (wrap64 ((rd x7_1 x20_1) - a0))))) ?hg ?ho ?hn ?hr ?_; (case ho => rfl); (case hg => rfl); (case hn => rfl); (case hr => first | (go_simp; done) | (go_simp; rfl)); intro w15 hw; have hg : wr.grownBy w15 (some go13) := (by rw [hw]; exact HP14.2); have hp_ : Kd.R (Kd.int .i64) 2 w15 w.heap.size (fun _ => True) (.slice (some ⟨go13, 0, none⟩) x7_1.length co8) y315 := (by rw [hw, Ny315.out]; exact HP14.1); clear HP14; have n0_ := Aside0.mk (hp_); have n1_ := Aside0.mk ((by rw [hw]; exact below_set (HB.out) GB13.out : Below w.heap.size w w15)); clear HO_7; clear HB; have HO_7 := n0_; have HB := n1_; clear n0_ n1_; clear hg hw hp_))
      (try simp only [← hl7_1])
      go_roundg k1
      case measure => have := HK1.out; omega
      case rel => exact ⟨(y315), (wrap64 (x20_1 + 1)), (by first | rfl | (simp; done) | (simp [*]; done) | (simp [i64_w]; done)), H', ⟨by have := HK1.out; omega⟩, ⟨by (try simp only [hl7_1]); (with_reducible repeat (first | apply Kd.R_alloc | apply Kd.R_drewN | apply Kd.R_drew)); exact HO_7.out⟩, ⟨by repeat (first | (with_reducible first | exact HB.out | apply below_alloc | apply pw_below_drewN | apply below_drew1) | exact HB.out)⟩⟩

end Go.Proofs.Ytbeidonfmeengaa.PAll
