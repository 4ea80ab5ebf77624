-- Written by a program of this session, after the kit's print
import Derived.Test.YtajdbccapandgaaPAllx0
import Derived.Test.YtajdbccapandgaaPAllx5
namespace Go.Proofs.Ytajdbccapandgaa.PAll
open Go.RowKit Go.Proofs.YtajdbccapandgaaW.PrintWords Go.Proofs.YtajdbccapandgaaW.PrintLast Go.Proofs.YtajdbccapandgaaW.PrintMore
attribute [local go_sem] max2_int min2_int max_two min_two max_three min_three max_four min_four   -- for this text's walks alone
set_option linter.unusedVariables false
set_option linter.unusedSimpArgs false

/-! ### lag_Cut: function 12 -/
def lag_Cut.f (l0 : List Int) (a1 : Int) : Option (List Int × List Int × Int) := (sample_Check.f l0).bind fun t134 => (if t134 = 0 then (if a1 < 0 then (some (([] : List Int), ([] : List Int), 2)) else (if a1 > (l0.length : Int) then (some (([] : List Int), ([] : List Int), 2)) else (if 0 ≤ (l0.length : Int) then (if ((l0.length : Int) : Int).toNat ≤ 35184372088832 then (some (l0.take a1.toNat ++ List.replicate (l0.length - a1.toNat) 0, List.replicate a1.toNat 0 ++ l0.drop a1.toNat, 0)) else (none)) else (none)))) else (some (([] : List Int), ([] : List Int), t134)))
def lag_Cut.T6 : Bool × List (List Nat × List Nat) := (true, [([], []), ([0], [0]), ([1, 1], [1]), ([], []), ([3], [3]), ([4, 4], [4]), ([2, 0, 1, 2], [2]), ([5, 6, 0, 1, 2, 3, 4, 5, 6], [5])])
def lag_Cut.B6 : List Nat := [0, 1, 3, 0, 8, 24, 7, 127]
theorem lag_Cut.tab6 : rtab .any (opsOf Try.f12 6) = lag_Cut.T6 := by kernel_rfl
theorem lag_Cut.bits6 : waitsOk lag_Cut.T6.2 lag_Cut.B6 = true := by kernel_rfl
theorem lag_Cut.e1 (l : List Int) (n n1 : Nat) (h : n1 ≤ n) : (List.replicate n (0 : Int)).take 0 ++ (l.take (min n n1) ++ (List.replicate n (0 : Int)).drop (0 + min n n1)) = l.take n1 ++ List.replicate (n - n1) 0 := by
  rw [Nat.min_eq_right h]; simp
theorem lag_Cut.e2 (l : List Int) (n n1 : Nat) (h : n1 ≤ n) (hl : l.length = n) : (List.replicate n (0 : Int)).take n1 ++ ((l.drop n1).take (min (n - n1) (n - n1)) ++ (List.replicate n (0 : Int)).drop (n1 + min (n - n1) (n - n1))) = List.replicate n1 0 ++ l.drop n1 := by
  rw [Nat.min_self, List.take_of_length_le (l := l.drop n1) (by rw [List.length_drop]; omega)]
  rw [List.take_replicate, Nat.min_eq_left h, List.drop_replicate, show n - (n1 + (n - n1)) = 0 by omega]
  simp
theorem lag_Cut.part {β : Type} (L C : List β) (off n k : Nat) (hC : C.length = k) (hL : n ≤ L.length) (hf : off + k ≤ n) : (L.take off ++ (C ++ L.drop (off + k))).take n = L.take off ++ (C ++ (L.take n).drop (off + k)) := by
  rw [List.take_append, List.take_append, List.length_take, hC, Nat.min_eq_left (by omega), List.take_of_length_le (l := L.take off) (by rw [List.length_take]; omega), List.take_of_length_le (l := C) (by omega), List.drop_take]
  congr 3
  omega
section
open Kd
variable {α : Type} {P : Program} {ops : Array Oper} {rest : List Oper} {o : Oper} {a : Act} {Q : Exit → Act → World → Prop}
theorem lag_Cut.run_at {enc : α → Value} {h1 : ∀ x, (enc x).oneCell' = true} (d : α) {W : World} (base : Nat) (t t' e : TypeId)
    (ty : TypeId) (ht : P.underlying t = some (.slice e)) (hinfo : (P.info? e).map (·.size) = some 1)
    (v : Value) (xs ys : List α) (off : Nat) (D : Option Addr) (dLen dCap : Nat) (A : Option Addr) (m c : Nat) (ok : Nat → Prop)
    (hD : 0 < dLen → ∀ g cap, v = .slice (some ⟨g, 0, none⟩) xs.length cap → D = some ⟨g, off, none⟩) (hfit : off + dLen ≤ xs.length)
    (HO : (scalar enc h1).R e W base ok v xs) (HR : (scalar enc h1).C W A m ys) :
    ∃ w1, (Builtin.copy_ #[t, t'] ty #[.slice D dLen dCap, .slice A m c]).run P W = .ok (goInt ((min m dLen : Nat) : Int)) w1 ∧ (scalar enc h1).R e w1 base ok v (xs.take off ++ (ys.take (min m dLen) ++ xs.drop (off + min m dLen))) ∧ W.grownBy w1 v.ownBlock := by
  have hR := reads_of_C (enc := enc) (d := d) (h1 := h1) HR
  have hm : ys.length = m := hR.1
  have hown := own_of_R HO
  have fin : ∀ w1, (Builtin.copy_ #[t, t'] ty #[.slice D dLen dCap, .slice A m c]).run P W = .ok (goInt ((min m dLen : Nat) : Int)) w1 → (scalar enc h1).R e w1 base ok v (xs.take off ++ (ys.take (min m dLen) ++ xs.drop (off + min m dLen))) → W.grownBy w1 v.ownBlock → ∃ w1, (Builtin.copy_ #[t, t'] ty #[.slice D dLen dCap, .slice A m c]).run P W = .ok (goInt ((min m dLen : Nat) : Int)) w1 ∧ (scalar enc h1).R e w1 base ok v (xs.take off ++ (ys.take (min m dLen) ++ xs.drop (off + min m dLen))) ∧ W.grownBy w1 v.ownBlock := fun w1 hr hrow hg => ⟨w1, hr, hrow, hg⟩
  rcases Nat.eq_zero_or_pos (min m dLen) with h0 | hp
  · refine fin W ?_ (by rw [h0, List.take_zero, List.nil_append, Nat.add_zero, List.take_append_drop]; exact HO) (World.grownBy.refl W _)
    rw [h0]
    exact run_copy_none W t t' ty e D A dLen dCap m c ht hinfo h0
  · obtain ⟨ad, hA, hc⟩ := hR.2.2 (by omega)
    rcases hown.2 with ⟨_, hx0⟩ | ⟨g, cap, cur, hv, hb, hh, hnc, hcm, hcs, htake⟩
    · omega
    have hDg := hD (by omega) g cap hv
    have hcs1 : cur.size = cap := by omega
    have hsrc : ∀ j u, (encs enc (ys.take (min m dLen)))[j]? = some u → W.cell? (ad.add j) = some u := by
      intro j u hu
      have hj : j < (ys.take (min m dLen)).length := by
        rcases Nat.lt_or_ge j (ys.take (min m dLen)).length with h | h
        · exact h
        · rw [List.getElem?_eq_none (by rw [encs_length]; exact h)] at hu
          cases hu
      have hjm : j < min m dLen := by rw [List.length_take] at hj; omega
      rw [encs_get (d := d) _ j hj] at hu
      rw [hc j (by omega), ← hu]
      simp [List.getD_eq_getElem?_getD, hjm]
    have hkl : (encs enc (ys.take (min m dLen))).length = min m dLen := by rw [encs_length, List.length_take]; omega
    have hr := run_copy_cells (P := P) W t t' ty e g off dLen dCap ad m c (encs enc (ys.take (min m dLen))) ht hinfo (by rw [hkl]) hsrc
      (fun j hj => by rw [cell_of_row W g _ cur e (0, 0) hh]; simp; omega) (fun j _ => blk_frozen hh _) (by intro u hu; simp only [encs, List.mem_map] at hu; obtain ⟨q, _, rfl⟩ := hu; exact h1 q)
    obtain ⟨cur', h3, h4, h5⟩ := setCells_row (encs enc (ys.take (min m dLen))) off W cur hh (by rw [hkl]; omega)
    obtain ⟨s1, s2, s3, s4⟩ := setCells_same g (encs enc (ys.take (min m dLen))) off W
    refine fin _ (by rw [hDg, hA, hr, hkl]) (R_of_own ?_ HO.1) ⟨s1, s2, s3, by rw [s4]; exact Nat.le_refl _, fun k _ hk => setCells_far _ _ k (fun he => hk (by rw [hv, he]; simp [Value.ownBlock]))⟩
    have hln : (xs.take off ++ (ys.take (min m dLen) ++ xs.drop (off + min m dLen))).length = xs.length := by
      rw [List.length_append, List.length_append, List.length_take, List.length_take, List.length_drop]
      omega
    rw [hln]
    refine ⟨by rw [encs_length, hln, Nat.mul_one], .inr ⟨g, cap, cur', hv, hb, h3, hnc, hcm, by rw [h4, hcs], ?_⟩⟩
    have htk : cur.toList.take xs.length = encs enc xs := by rw [← htake, Nat.mul_one]
    rw [h5, hkl, encs_append, encs_append, Nat.mul_one]
    have e1 : encs enc (xs.take off) = cur.toList.take off := by
      have : encs enc (xs.take off) = (encs enc xs).take off := by simp [encs, List.map_take]
      rw [this, ← htk, List.take_take, Nat.min_eq_left (by omega)]
    have e2 : encs enc (xs.drop (off + min m dLen)) = (cur.toList.take xs.length).drop (off + min m dLen) := by
      rw [htk]; simp [encs, List.map_drop]
    rw [e1, e2]
    have hL : xs.length ≤ cur.toList.length := by have := Array.length_toList (xs := cur); omega
    rw [List.append_assoc]
    exact lag_Cut.part cur.toList _ off xs.length (min m dLen) hkl hL (by omega)
/-- copy into a part of a row of one's own. -/
theorem lag_Cut.copy_at {enc : α → Value} {h1 : ∀ x, (enc x).oneCell' = true} (d : α) {w0 W : World} (base : Nat) (hgd : o.guard = none) (s x : Operand) (t t' e : TypeId)
    (ho : o.op = .call { callee := .builtin .copy, args := #[s, x], argTypes := #[t, t'] }) (ht : P.underlying t = some (.slice e)) (hinfo : (P.info? e).map (·.size) = some 1)
    (v : Value) (xs ys : List α) (off : Nat) (D : Option Addr) (dLen dCap : Nat) (A : Option Addr) (m c : Nat) (ok : Nat → Prop) (hs : a.eval s = .slice D dLen dCap) (hx : a.eval x = .slice A m c)
    (hD : 0 < dLen → ∀ g cap, v = .slice (some ⟨g, 0, none⟩) xs.length cap → D = some ⟨g, off, none⟩) (hfit : off + dLen ≤ xs.length)
    (HO : (scalar enc h1).R e W base ok v xs) (HR : (scalar enc h1).C W A m ys) (HB : Below base w0 W) (hbase : base ≤ W.heap.size)
    (h : ∀ w1, (scalar enc h1).R e w1 base ok v (xs.take off ++ (ys.take (min m dLen) ++ xs.drop (off + min m dLen))) → Below base w0 w1 → W.grownBy w1 v.ownBlock → wpList P ops Q rest (a.put o.dst (.int .i64 ((min m dLen : Nat) : Int))) w1) :
    wpList P ops Q (o :: rest) a W := by
  obtain ⟨w1, hr, hrow, hg⟩ := lag_Cut.run_at d base t t' e o.type ht hinfo v xs ys off D dLen dCap A m c ok hD hfit HO HR
  refine wpList_plain hgd fun K hK => ?_
  unfold Oper.wp execOp
  simp only [ho, resolve, invoke, builtin, Sem.run_bind, Sem.run_pure, Result.andThen_ok, List.map_toArray, List.map_cons, List.map_nil, hs, hx, hr]
  exact hK _ _ (h w1 hrow (HB.grown hg hbase (own_base (own_of_R HO))) hg)
/-- The same as one step of a region that draws its order. -/
theorem lag_Cut.step_at {K : Act → World → Prop} {E : Prop} {enc : α → Value} {h1 : ∀ x, (enc x).oneCell' = true} (d : α) {w0 W : World} (base : Nat) (hgd : o.guard = none) (s x : Operand) (t t' e : TypeId)
    (ho : o.op = .call { callee := .builtin .copy, args := #[s, x], argTypes := #[t, t'] }) (ht : P.underlying t = some (.slice e)) (hinfo : (P.info? e).map (·.size) = some 1)
    (v : Value) (xs ys : List α) (off : Nat) (D : Option Addr) (dLen dCap : Nat) (A : Option Addr) (m c : Nat) (ok : Nat → Prop) (hs : a.eval s = .slice D dLen dCap) (hx : a.eval x = .slice A m c)
    (hD : 0 < dLen → ∀ g cap, v = .slice (some ⟨g, 0, none⟩) xs.length cap → D = some ⟨g, off, none⟩) (hfit : off + dLen ≤ xs.length)
    (HO : (scalar enc h1).R e W base ok v xs) (HR : (scalar enc h1).C W A m ys) (HB : Below base w0 W) (hbase : base ≤ W.heap.size)
    (h : ∀ w1, (scalar enc h1).R e w1 base ok v (xs.take off ++ (ys.take (min m dLen) ++ xs.drop (off + min m dLen))) → Below base w0 w1 → W.grownBy w1 v.ownBlock → K (a.put o.dst (.int .i64 ((min m dLen : Nat) : Int))) w1) :
    if Region.wanted o (yielded ops a.tmps) = true then Oper.wp P o a W K Q else E := by
  obtain ⟨w1, hr, hrow, hg⟩ := lag_Cut.run_at d base t t' e o.type ht hinfo v xs ys off D dLen dCap A m c ok hD hfit HO HR
  have hw : Region.wanted o (yielded ops a.tmps) = true := by simp [Region.wanted, hgd]
  rw [if_pos hw]
  unfold Oper.wp execOp
  simp only [ho, resolve, invoke, builtin, Sem.run_bind, Sem.run_pure, Result.andThen_ok, List.map_toArray, List.map_cons, List.map_nil, hs, hx, hr]
  exact h w1 hrow (HB.grown hg hbase (own_base (own_of_R HO))) hg
/-- copy of nothing. -/
theorem lag_Cut.copy_zero {W : World} (hgd : o.guard = none) (s x : Operand) (t t' e : TypeId)
    (ho : o.op = .call { callee := .builtin .copy, args := #[s, x], argTypes := #[t, t'] }) (ht : P.underlying t = some (.slice e)) (hinfo : (P.info? e).map (·.size) = some 1)
    (D : Option Addr) (dCap : Nat) (A : Option Addr) (m c : Nat) (hs : a.eval s = .slice D 0 dCap) (hx : a.eval x = .slice A m c)
    (h : wpList P ops Q rest (a.put o.dst (.int .i64 0)) W) : wpList P ops Q (o :: rest) a W := by
  have hr := run_copy_none (P := P) W t t' o.type e D A 0 dCap m c ht hinfo (Nat.min_zero _)
  refine wpList_plain hgd fun K hK => ?_
  unfold Oper.wp execOp
  simp only [ho, resolve, invoke, builtin, Sem.run_bind, Sem.run_pure, Result.andThen_ok, List.map_toArray, List.map_cons, List.map_nil, hs, hx, hr]
  exact hK _ _ h
/-- The same as one step of a region that draws its order. -/
theorem lag_Cut.step_zero {K : Act → World → Prop} {E : Prop} {W : World} (hgd : o.guard = none) (s x : Operand) (t t' e : TypeId)
    (ho : o.op = .call { callee := .builtin .copy, args := #[s, x], argTypes := #[t, t'] }) (ht : P.underlying t = some (.slice e)) (hinfo : (P.info? e).map (·.size) = some 1)
    (D : Option Addr) (dLen dCap : Nat) (A : Option Addr) (m c : Nat) (hs : a.eval s = .slice D dLen dCap) (hx : a.eval x = .slice A m c) (hz : dLen = 0)
    (h : K (a.put o.dst (.int .i64 0)) W) : if Region.wanted o (yielded ops a.tmps) = true then Oper.wp P o a W K Q else E := by
  have hr := run_copy_none (P := P) W t t' o.type e D A dLen dCap m c ht hinfo (by rw [hz]; exact Nat.min_zero _)
  have hw : Region.wanted o (yielded ops a.tmps) = true := by simp [Region.wanted, hgd]
  rw [if_pos hw]
  unfold Oper.wp execOp
  simp only [ho, resolve, invoke, builtin, Sem.run_bind, Sem.run_pure, Result.andThen_ok, List.map_toArray, List.map_cons, List.map_nil, hs, hx, hr]
  exact h
end
set_option maxHeartbeats 64000000 in
set_option maxRecDepth 100000 in
theorem lag_Cut.calls (A0 : Option Addr) (c0 : Nat) (l0 : List Int) (a1 : Int) (r1 : List Int) (r2 : List Int) (r3 : Int) (w : World) (hr0 : Kd.C (Kd.int .i64) w A0 l0.length l0) (hc0 : l0.length ≤ c0) (h : lag_Cut.f l0 a1 = some (r1, r2, r3)) :
    Calls Try.prog 12 #[.slice A0 l0.length c0, .int .i64 a1] w fun e w' => ∃ v0_ v1_ : Value, e = .returned (.tuple #[v0_, v1_, .int .i64 r3]) ∧ Kd.R (Kd.int .i64) 3 w' w.heap.size (fun k_ => some k_ ≠ (v1_ : Value).ownBlock) v0_ r1 ∧ Kd.R (Kd.int .i64) 3 w' w.heap.size (fun k_ => some k_ ≠ (v0_ : Value).ownBlock) v1_ r2 ∧ Below w.heap.size w w' := by
  have HR0 := Aside0.mk hr0
  have HC0 := Aside0.mk hc0
  clear hr0 hc0
  have HB := Aside0.mk (Below.refl w.heap.size w)
  have H : ((sample_Check.f l0).bind fun t134 => (if t134 = 0 then (if a1 < 0 then (some (([] : List Int), ([] : List Int), 2)) else (if a1 > (l0.length : Int) then (some (([] : List Int), ([] : List Int), 2)) else (if 0 ≤ (l0.length : Int) then (if ((l0.length : Int) : Int).toNat ≤ 35184372088832 then (some (l0.take a1.toNat ++ List.replicate (l0.length - a1.toNat) 0, List.replicate a1.toNat 0 ++ l0.drop a1.toNat, 0)) else (none)) else (none)))) else (some (([] : List Int), ([] : List Int), t134)))) = some (r1, r2, r3) := h
  clear h
  replace H := Option.bind_eq_some_iff.mp H
  obtain ⟨t134, A30, H⟩ := H
  replace H : (if t134 = 0 then (if a1 < 0 then (some (([] : List Int), ([] : List Int), 2)) else (if a1 > (l0.length : Int) then (some (([] : List Int), ([] : List Int), 2)) else (if 0 ≤ (l0.length : Int) then (if ((l0.length : Int) : Int).toNat ≤ 35184372088832 then (some (l0.take a1.toNat ++ List.replicate (l0.length - a1.toNat) 0, List.replicate a1.toNat 0 ++ l0.drop a1.toNat, 0)) else (none)) else (none)))) else (some (([] : List Int), ([] : List Int), t134))) = some (r1, r2, r3) := H
  have A3 := Aside0.mk A30
  clear A30
  by_cases c4 : t134 = 0
  rotate_left
  · rw [if_neg c4] at H
    have c4b0 : (t134 == 0) = false := beq_eq_false_iff_ne.mpr c4
    have c4b1 : (t134 != 0) = true := bne_iff_ne.mpr c4
    simp only [Option.some.injEq, Prod.mk.injEq] at H
    obtain ⟨rfl, rfl, rfl⟩ := H
    go_enter Try.func12, Try.ntmps12
    go_wp2_with (first | ((with_reducible refine gate_callee (f := 24) rfl ?_); refine goesL_ (some 9) rfl rfl Try.func24 (by kernel_rfl) rfl #[.slice A0 l0.length c0] rfl (by (try simp only [List.map_toArray, List.map_cons, List.map_nil]); first | done | rfl | (simp only [List.length_drop, List.length_take]; rfl)) ?_; (with_reducible refine (sample_Check.calls _ _ l0 t134 _ ?side1 ?side2 A3.out).mono ?_); (case side1 => repeat (first | exact HR0.out | (with_reducible refine Kd.C_alloc ?_ _) | (with_reducible refine Kd.C_drewN ?_ _) | (with_reducible refine Kd.C_drew ?_))); (case side2 => exact HC0.out); rintro e w18 ⟨rfl, hb⟩; refine ⟨_, rfl, ?_⟩; have n0_ := Aside0.mk (below_step (by repeat (first | (with_reducible first | exact HB.out | apply below_alloc | apply pw_below_drewN | apply below_drew1) | exact HB.out)) hb); clear HB; have HB := n0_; clear n0_; (try clear hb); (try clear hb2); (try clear hk); (try clear hi)))
    go_ret3
    exact ⟨_, _, by first | rfl | (simp [errW_none, errW_some] <;> rfl) | (simp [*, errW_none, errW_some] <;> rfl), by first | exact Kd.R_nil _ _ _ _ _ | exact Kd.N_nil _ _ _ _ _ | exact Kd.V_nil _ _ _ _ _ | exact Kd.Q_nil _ _ _ _ _ | exact Kd.S_nil _ _ _ _ _, by first | exact Kd.R_nil _ _ _ _ _ | exact Kd.N_nil _ _ _ _ _ | exact Kd.V_nil _ _ _ _ _ | exact Kd.Q_nil _ _ _ _ _ | exact Kd.S_nil _ _ _ _ _, by repeat (first | (with_reducible first | exact HB.out | apply below_alloc | apply pw_below_drewN | apply below_drew1) | exact HB.out)⟩
  rw [if_pos c4] at H
  have c4b0 : (t134 == 0) = true := beq_iff_eq.mpr c4
  have c4b1 : (t134 != 0) = false := bne_eq_false_iff_eq.mpr c4
  clear c4
  by_cases c5 : a1 < 0
  · rw [if_pos c5] at H
    have c5b0 : decide (a1 < 0) = true := decide_eq_true c5
    clear c5
    simp only [Option.some.injEq, Prod.mk.injEq] at H
    obtain ⟨rfl, rfl, rfl⟩ := H
    go_enter Try.func12, Try.ntmps12
    go_wp2_with (first | ((with_reducible refine gate_callee (f := 24) rfl ?_); refine goesL_ (some 9) rfl rfl Try.func24 (by kernel_rfl) rfl #[.slice A0 l0.length c0] rfl (by (try simp only [List.map_toArray, List.map_cons, List.map_nil]); first | done | rfl | (simp only [List.length_drop, List.length_take]; rfl)) ?_; (with_reducible refine (sample_Check.calls _ _ l0 t134 _ ?side1 ?side2 A3.out).mono ?_); (case side1 => repeat (first | exact HR0.out | (with_reducible refine Kd.C_alloc ?_ _) | (with_reducible refine Kd.C_drewN ?_ _) | (with_reducible refine Kd.C_drew ?_))); (case side2 => exact HC0.out); rintro e w6 ⟨rfl, hb⟩; refine ⟨_, rfl, ?_⟩; have n0_ := Aside0.mk (below_step (by repeat (first | (with_reducible first | exact HB.out | apply below_alloc | apply pw_below_drewN | apply below_drew1) | exact HB.out)) hb); clear HB; have HB := n0_; clear n0_; (try clear hb); (try clear hb2); (try clear hk); (try clear hi)))
    go_ret3
    exact ⟨_, _, by first | rfl | (simp [errW_none, errW_some] <;> rfl) | (simp [*, errW_none, errW_some] <;> rfl), by first | exact Kd.R_nil _ _ _ _ _ | exact Kd.N_nil _ _ _ _ _ | exact Kd.V_nil _ _ _ _ _ | exact Kd.Q_nil _ _ _ _ _ | exact Kd.S_nil _ _ _ _ _, by first | exact Kd.R_nil _ _ _ _ _ | exact Kd.N_nil _ _ _ _ _ | exact Kd.V_nil _ _ _ _ _ | exact Kd.Q_nil _ _ _ _ _ | exact Kd.S_nil _ _ _ _ _, by repeat (first | (with_reducible first | exact HB.out | apply below_alloc | apply pw_below_drewN | apply below_drew1) | exact HB.out)⟩
  rw [if_neg c5] at H
  have c5b0 : decide (a1 < 0) = false := decide_eq_false c5
  clear c5
  by_cases c7 : a1 > (l0.length : Int)
  · rw [if_pos c7] at H
    have c7b0 : decide ((l0.length : Int) < a1) = true := decide_eq_true c7
    clear c7
    simp only [Option.some.injEq, Prod.mk.injEq] at H
    obtain ⟨rfl, rfl, rfl⟩ := H
    go_enter Try.func12, Try.ntmps12
    go_wp2_with (first | ((with_reducible refine gate_callee (f := 24) rfl ?_); refine goesL_ (some 9) rfl rfl Try.func24 (by kernel_rfl) rfl #[.slice A0 l0.length c0] rfl (by (try simp only [List.map_toArray, List.map_cons, List.map_nil]); first | done | rfl | (simp only [List.length_drop, List.length_take]; rfl)) ?_; (with_reducible refine (sample_Check.calls _ _ l0 t134 _ ?side1 ?side2 A3.out).mono ?_); (case side1 => repeat (first | exact HR0.out | (with_reducible refine Kd.C_alloc ?_ _) | (with_reducible refine Kd.C_drewN ?_ _) | (with_reducible refine Kd.C_drew ?_))); (case side2 => exact HC0.out); rintro e w8 ⟨rfl, hb⟩; refine ⟨_, rfl, ?_⟩; have n0_ := Aside0.mk (below_step (by repeat (first | (with_reducible first | exact HB.out | apply below_alloc | apply pw_below_drewN | apply below_drew1) | exact HB.out)) hb); clear HB; have HB := n0_; clear n0_; (try clear hb); (try clear hb2); (try clear hk); (try clear hi)))
    go_ret3
    exact ⟨_, _, by first | rfl | (simp [errW_none, errW_some] <;> rfl) | (simp [*, errW_none, errW_some] <;> rfl), by first | exact Kd.R_nil _ _ _ _ _ | exact Kd.N_nil _ _ _ _ _ | exact Kd.V_nil _ _ _ _ _ | exact Kd.Q_nil _ _ _ _ _ | exact Kd.S_nil _ _ _ _ _, by first | exact Kd.R_nil _ _ _ _ _ | exact Kd.N_nil _ _ _ _ _ | exact Kd.V_nil _ _ _ _ _ | exact Kd.Q_nil _ _ _ _ _ | exact Kd.S_nil _ _ _ _ _, by repeat (first | (with_reducible first | exact HB.out | apply below_alloc | apply pw_below_drewN | apply below_drew1) | exact HB.out)⟩
  rw [if_neg c7] at H
  have c7b0 : decide ((l0.length : Int) < a1) = false := decide_eq_false c7
  clear c7
  by_cases c9 : 0 ≤ (l0.length : Int)
  rotate_left
  · rw [if_neg c9] at H
    exact absurd H (by simp)
  rw [if_pos c9] at H
  have c9b0 := eq_true c9
  have c9b1 : decide (0 ≤ (l0.length : Int)) = true := decide_eq_true c9
  clear c9
  by_cases c10 : ((l0.length : Int) : Int).toNat ≤ 35184372088832
  rotate_left
  · rw [if_neg c10] at H
    exact absurd H (by simp)
  rw [if_pos c10] at H
  have c10b0 := eq_true c10
  have c10b1 : decide (((l0.length : Int) : Int).toNat ≤ 35184372088832) = true := decide_eq_true c10
  clear c10
  obtain ⟨y135, hy135⟩ : ∃ y_ : List Int, y_ = (List.replicate ((l0.length : Int) : Int).toNat 0) := ⟨_, rfl⟩
  have Ny135 := Aside0.mk hy135
  clear hy135
  obtain ⟨y138, hy138⟩ : ∃ y_ : List Int, y_ = (List.replicate ((l0.length : Int) : Int).toNat 0) := ⟨_, rfl⟩
  have Ny138 := Aside0.mk hy138
  clear hy138
  simp only [Option.some.injEq, Prod.mk.injEq] at H
  obtain ⟨rfl, rfl, rfl⟩ := H
  go_enter Try.func12, Try.ntmps12
  try go_wp2_with (first | ((with_reducible refine gate_callee (f := 24) rfl ?_); refine goesL_ (some 9) rfl rfl Try.func24 (by kernel_rfl) rfl #[.slice A0 l0.length c0] rfl (by (try simp only [List.map_toArray, List.map_cons, List.map_nil]); first | done | rfl | (simp only [List.length_drop, List.length_take]; rfl)) ?_; (with_reducible refine (sample_Check.calls _ _ l0 t134 _ ?side1 ?side2 A3.out).mono ?_); (case side1 => repeat (first | exact HR0.out | (with_reducible refine Kd.C_alloc ?_ _) | (with_reducible refine Kd.C_drewN ?_ _) | (with_reducible refine Kd.C_drew ?_))); (case side2 => exact HC0.out); rintro e w11 ⟨rfl, hb⟩; refine ⟨_, rfl, ?_⟩; have n0_ := Aside0.mk (below_step (by repeat (first | (with_reducible first | exact HB.out | apply below_alloc | apply pw_below_drewN | apply below_drew1) | exact HB.out)) hb); clear HB; have HB := n0_; clear n0_; (try clear hb); (try clear hb2); (try clear hk); (try clear hi)))
  have n0_ := Aside0.mk (below_drew1 HB.out)
  clear HB
  have HB := n0_
  clear n0_
  refine start_ (n := 8) (S := fun w' => True) (ds := []) #[false, false, false, false, false, false, false, false] (by kernel_rfl) rfl rfl trivial (fun hHeld => ?_); refine with_tabW lag_Cut.tab6 lag_Cut.bits6 (fun HT_ HW_ => ?_)
  generalize w11.drew = w12 at HB hHeld ⊢
  refine pure_ (i := 0) (N := some 21) (v := ?_) (a' := ?_) #[true, false, false, false, false, false, false, false] rfl rfl (any_of HT_.out (by kernel_rfl)) (fun _ _ _ h => h) (Or.inl ⟨by rfl, ?_⟩) ?_ ?_
  rotate_left
  · intro w'
    go_simp
    with_reducible rfl
  rotate_left
  · simp only [Act.put, List.setIfInBounds_toArray, List.set_cons_zero, List.set_cons_succ, i64_w, i32_w]
    rfl
  refine pure_ (i := 1) (N := some 22) (v := ?_) (a' := ?_) #[true, true, false, false, false, false, false, false] rfl rfl (any_of HT_.out (by kernel_rfl)) (fun _ _ _ h => h) (Or.inl ⟨by rfl, ?_⟩) ?_ ?_
  rotate_left
  · intro w'
    go_simp
    with_reducible rfl
  rotate_left
  · simp only [Act.put, List.setIfInBounds_toArray, List.set_cons_zero, List.set_cons_succ, i64_w, i32_w]
    rfl
  refine pure_ (i := 3) (N := some 24) (v := ?_) (a' := ?_) #[true, true, false, true, false, false, false, false] rfl rfl (any_of HT_.out (by kernel_rfl)) (fun _ _ _ h => h) (Or.inl ⟨by rfl, ?_⟩) ?_ ?_
  rotate_left
  · intro w'
    go_simp
    with_reducible rfl
  rotate_left
  · simp only [Act.put, List.setIfInBounds_toArray, List.set_cons_zero, List.set_cons_succ, i64_w, i32_w]
    rfl
  refine pure_ (i := 4) (N := some 25) (v := ?_) (a' := ?_) #[true, true, false, true, true, false, false, false] rfl rfl (any_of HT_.out (by kernel_rfl)) (fun _ _ _ h => h) (Or.inl ⟨by rfl, ?_⟩) ?_ ?_
  rotate_left
  · intro w'
    go_simp
    with_reducible rfl
  rotate_left
  · simp only [Act.put, List.setIfInBounds_toArray, List.set_cons_zero, List.set_cons_succ, i64_w, i32_w]
    rfl
  refine join_ (σ := Value × Value) 1 #[true, true, true, true, true, true, true, false] (fun s_ => [(23, s_.1), (26, s_.2), (4, s_.1)]) (fun s_ w' => (Kd.R (Kd.int .i64) 3 w' w.heap.size (fun k_ => some k_ ≠ (s_.2 : Value).ownBlock) s_.1 y135) ∧ (Kd.R (Kd.int .i64) 3 w' w.heap.size (fun k_ => some k_ ≠ (s_.1 : Value).ownBlock) s_.2 y138) ∧ (Below w.heap.size w w')) ?_ ?_
  rotate_left
  · intro hCont
    refine two_ (i := 2) (j := 5) (Ni := some 23) (Nj := some 26) #[true, true, true, true, true, false, false, false] #[true, true, false, true, true, true, false, false] rfl rfl rfl rfl (two_of HT_.out (by kernel_rfl)) (by decide) (by decide) (fun K hK => ?_) (fun K hK => ?_)
    · skip
      refine Kd.R_make_step (Kd.int .i64) _ 3 (by rfl) (N := 23) rfl 22 _ _ rfl (l0.length : Int) rfl rfl Try.underlying22 (.int .i64 0) 8 info3 rfl (by decide) (by omega) 0 (ok := fun _ => True) (okp := fun _ => True) rfl (fun _ hk => hk) trivial (of_decide_eq_true (by first | (with_reducible assumption) | assumption)) (Nat.le_trans (Nat.mul_le_mul_right _ (of_decide_eq_true (by first | (with_reducible assumption) | assumption) : (l0.length : Int).toNat ≤ 35184372088832)) (by omega)) (Below.refl _ _) (Nat.le_refl _) ?_
      intro v136 w13 ho14 hb hg_ hnew_
      clear hg_ hnew_
      (first | rw [← Ny135.out] at ho14 | (simp only [Int.reduceToNat] at ho14; rw [← Ny135.out] at ho14))
      have n0_ := Aside0.mk (Kd.R_lower ho14 (below_size (by repeat (first | (with_reducible first | exact HB.out | apply below_alloc | apply pw_below_drewN | apply below_drew1) | exact HB.out))))
      have n1_ := Aside0.mk (below_step (by repeat (first | (with_reducible first | exact HB.out | apply below_alloc | apply pw_below_drewN | apply below_drew1) | exact HB.out)) hb)
      clear HB
      have HO137 := n0_
      have HB := n1_
      clear n0_ n1_
      clear hb ho14
      refine hK.out _ _ trivial (fun hHeld => ?_)
      clear hK K
      refine norm_ (a' := ?_) ?_ ?_
      rotate_left
      · show Act.put _ (some 23) _ = _
        simp only [Act.put, List.setIfInBounds_toArray, List.set_cons_zero, List.set_cons_succ, i64_w, i32_w]
        rfl
      refine pure_ (i := 6) (N := some 4) (v := ?_) (a' := ?_) #[true, true, true, true, true, false, true, false] rfl rfl (any_of HT_.out (by kernel_rfl)) (fun _ _ _ h => h) (Or.inl ⟨by rfl, ?_⟩) ?_ ?_
      rotate_left
      · intro w'
        go_simp
        with_reducible rfl
      rotate_left
      · simp only [Act.put, List.setIfInBounds_toArray, List.set_cons_zero, List.set_cons_succ, i64_w, i32_w]
        rfl
      refine one_ (i := 5) (N := some 26) #[true, true, true, true, true, true, true, false] rfl rfl (one_of HT_.out (by kernel_rfl)) (by decide) (fun K hK => ?_)
      refine Kd.R_make_step (Kd.int .i64) _ 3 (by rfl) (N := 26) rfl 22 _ _ rfl (l0.length : Int) rfl rfl Try.underlying22 (.int .i64 0) 8 info3 rfl (by decide) (by omega) 0 (ok := fun _ => True) (okp := fun _ => True) rfl (fun _ hk => hk) trivial (of_decide_eq_true (by first | (with_reducible assumption) | assumption)) (Nat.le_trans (Nat.mul_le_mul_right _ (of_decide_eq_true (by first | (with_reducible assumption) | assumption) : (l0.length : Int).toNat ≤ 35184372088832)) (by omega)) (Below.refl _ _) (Nat.le_refl _) ?_
      intro v139 w15 ho16 hb hg_ hnew_
      clear hg_ hnew_
      (first | rw [← Ny138.out] at ho16 | (simp only [Int.reduceToNat] at ho16; rw [← Ny138.out] at ho16))
      have n0_ := Aside0.mk (Kd.R_elder' (by (with_reducible repeat (first | apply Kd.R_alloc | apply Kd.R_drewN | apply Kd.R_drew)); exact HO137.out) (Kd.R_base ho16) hb)
      have n1_ := Aside0.mk (Kd.R_lower (Kd.R_new' ho16 (Kd.R_lt (by (with_reducible repeat (first | apply Kd.R_alloc | apply Kd.R_drewN | apply Kd.R_drew)); exact HO137.out))) (below_size (by repeat (first | (with_reducible first | exact HB.out | apply below_alloc | apply pw_below_drewN | apply below_drew1) | exact HB.out))))
      have n2_ := Aside0.mk (below_step (by repeat (first | (with_reducible first | exact HB.out | apply below_alloc | apply pw_below_drewN | apply below_drew1) | exact HB.out)) hb)
      clear HO137
      clear HB
      have HO137 := n0_
      have HO140 := n1_
      have HB := n2_
      clear n0_ n1_ n2_
      clear hb ho16
      refine hK.out _ _ trivial (fun hHeld => ?_)
      clear hK K
      refine norm_ (a' := ?_) ?_ ?_
      rotate_left
      · show Act.put _ (some 26) _ = _
        simp only [Act.put, List.setIfInBounds_toArray, List.set_cons_zero, List.set_cons_succ, i64_w, i32_w]
        rfl
      exact norm_ (by simp only [putAll, Act.put, List.setIfInBounds_toArray, List.set_cons_zero, List.set_cons_succ]) (hCont (v136, v139) _ ⟨(by (with_reducible repeat (first | apply Kd.R_alloc | apply Kd.R_drewN | apply Kd.R_drew)); exact Kd.R_mono HO137.out (fun _ hk => hk.2)), (by (with_reducible repeat (first | apply Kd.R_alloc | apply Kd.R_drewN | apply Kd.R_drew)); exact Kd.R_mono HO140.out (fun _ hk => hk.2)), (by repeat (first | (with_reducible first | exact HB.out | apply below_alloc | apply pw_below_drewN | apply below_drew1) | exact HB.out))⟩)
    · skip
      refine Kd.R_make_step (Kd.int .i64) _ 3 (by rfl) (N := 26) rfl 22 _ _ rfl (l0.length : Int) rfl rfl Try.underlying22 (.int .i64 0) 8 info3 rfl (by decide) (by omega) 0 (ok := fun _ => True) (okp := fun _ => True) rfl (fun _ hk => hk) trivial (of_decide_eq_true (by first | (with_reducible assumption) | assumption)) (Nat.le_trans (Nat.mul_le_mul_right _ (of_decide_eq_true (by first | (with_reducible assumption) | assumption) : (l0.length : Int).toNat ≤ 35184372088832)) (by omega)) (Below.refl _ _) (Nat.le_refl _) ?_
      intro v139 w13 ho14 hb hg_ hnew_
      clear hg_ hnew_
      (first | rw [← Ny138.out] at ho14 | (simp only [Int.reduceToNat] at ho14; rw [← Ny138.out] at ho14))
      have n0_ := Aside0.mk (Kd.R_lower ho14 (below_size (by repeat (first | (with_reducible first | exact HB.out | apply below_alloc | apply pw_below_drewN | apply below_drew1) | exact HB.out))))
      have n1_ := Aside0.mk (below_step (by repeat (first | (with_reducible first | exact HB.out | apply below_alloc | apply pw_below_drewN | apply below_drew1) | exact HB.out)) hb)
      clear HB
      have HO140 := n0_
      have HB := n1_
      clear n0_ n1_
      clear hb ho14
      refine hK.out _ _ trivial (fun hHeld => ?_)
      clear hK K
      refine norm_ (a' := ?_) ?_ ?_
      rotate_left
      · show Act.put _ (some 26) _ = _
        simp only [Act.put, List.setIfInBounds_toArray, List.set_cons_zero, List.set_cons_succ, i64_w, i32_w]
        rfl
      refine one_ (i := 2) (N := some 23) #[true, true, true, true, true, true, false, false] rfl rfl (one_of HT_.out (by kernel_rfl)) (by decide) (fun K hK => ?_)
      refine Kd.R_make_step (Kd.int .i64) _ 3 (by rfl) (N := 23) rfl 22 _ _ rfl (l0.length : Int) rfl rfl Try.underlying22 (.int .i64 0) 8 info3 rfl (by decide) (by omega) 0 (ok := fun _ => True) (okp := fun _ => True) rfl (fun _ hk => hk) trivial (of_decide_eq_true (by first | (with_reducible assumption) | assumption)) (Nat.le_trans (Nat.mul_le_mul_right _ (of_decide_eq_true (by first | (with_reducible assumption) | assumption) : (l0.length : Int).toNat ≤ 35184372088832)) (by omega)) (Below.refl _ _) (Nat.le_refl _) ?_
      intro v136 w15 ho16 hb hg_ hnew_
      clear hg_ hnew_
      (first | rw [← Ny135.out] at ho16 | (simp only [Int.reduceToNat] at ho16; rw [← Ny135.out] at ho16))
      have n0_ := Aside0.mk (Kd.R_elder' (by (with_reducible repeat (first | apply Kd.R_alloc | apply Kd.R_drewN | apply Kd.R_drew)); exact HO140.out) (Kd.R_base ho16) hb)
      have n1_ := Aside0.mk (Kd.R_lower (Kd.R_new' ho16 (Kd.R_lt (by (with_reducible repeat (first | apply Kd.R_alloc | apply Kd.R_drewN | apply Kd.R_drew)); exact HO140.out))) (below_size (by repeat (first | (with_reducible first | exact HB.out | apply below_alloc | apply pw_below_drewN | apply below_drew1) | exact HB.out))))
      have n2_ := Aside0.mk (below_step (by repeat (first | (with_reducible first | exact HB.out | apply below_alloc | apply pw_below_drewN | apply below_drew1) | exact HB.out)) hb)
      clear HO140
      clear HB
      have HO140 := n0_
      have HO137 := n1_
      have HB := n2_
      clear n0_ n1_ n2_
      clear hb ho16
      refine hK.out _ _ trivial (fun hHeld => ?_)
      clear hK K
      refine norm_ (a' := ?_) ?_ ?_
      rotate_left
      · show Act.put _ (some 23) _ = _
        simp only [Act.put, List.setIfInBounds_toArray, List.set_cons_zero, List.set_cons_succ, i64_w, i32_w]
        rfl
      refine pure_ (i := 6) (N := some 4) (v := ?_) (a' := ?_) #[true, true, true, true, true, true, true, false] rfl rfl (any_of HT_.out (by kernel_rfl)) (fun _ _ _ h => h) (Or.inl ⟨by rfl, ?_⟩) ?_ ?_
      rotate_left
      · intro w'
        go_simp
        with_reducible rfl
      rotate_left
      · simp only [Act.put, List.setIfInBounds_toArray, List.set_cons_zero, List.set_cons_succ, i64_w, i32_w]
        rfl
      exact norm_ (by simp only [putAll, Act.put, List.setIfInBounds_toArray, List.set_cons_zero, List.set_cons_succ]) (hCont (v136, v139) _ ⟨(by (with_reducible repeat (first | apply Kd.R_alloc | apply Kd.R_drewN | apply Kd.R_drew)); exact Kd.R_mono HO137.out (fun _ hk => hk.2)), (by (with_reducible repeat (first | apply Kd.R_alloc | apply Kd.R_drewN | apply Kd.R_drew)); exact Kd.R_mono HO140.out (fun _ hk => hk.2)), (by repeat (first | (with_reducible first | exact HB.out | apply below_alloc | apply pw_below_drewN | apply below_drew1) | exact HB.out))⟩)
  rintro ⟨v136, v139⟩ w17 ⟨h0_, h1_, h2_⟩
  have n0_ : Aside0 (Kd.R (Kd.int .i64) 3 w17 w.heap.size (fun k_ => some k_ ≠ (v139 : Value).ownBlock) v136 y135) := ⟨h0_⟩
  have n1_ : Aside0 (Kd.R (Kd.int .i64) 3 w17 w.heap.size (fun k_ => some k_ ≠ (v136 : Value).ownBlock) v139 y138) := ⟨h1_⟩
  have n2_ : Aside0 (Below w.heap.size w w17) := ⟨h2_⟩
  clear HB
  clear h0_ h1_ h2_
  have HO137 := n0_
  have HO140 := n1_
  have HB := n2_
  clear n0_ n1_ n2_
  have hHeld := trivial
  refine norm_ (a' := ?_) ?_ ?_
  rotate_left
  · simp only [putAll, Act.put, List.setIfInBounds_toArray, List.set_cons_zero, List.set_cons_succ]
    rfl
  refine pure_ (i := 7) (N := some 5) (v := ?_) (a' := ?_) #[true, true, true, true, true, true, true, true] rfl rfl (any_of HT_.out (by kernel_rfl)) (fun _ _ _ h => h) (Or.inl ⟨by rfl, ?_⟩) ?_ ?_
  rotate_left
  · intro w'
    go_simp
    with_reducible rfl
  rotate_left
  · simp only [Act.put, List.setIfInBounds_toArray, List.set_cons_zero, List.set_cons_succ, i64_w, i32_w]
    rfl
  refine done_ (done_of HT_.out (by kernel_rfl)) ?_
  obtain ⟨n1, e1⟩ := Int.eq_ofNat_of_zero_le (show 0 ≤ a1 by have := of_decide_eq_false c5b0; omega)
  subst e1
  have hle : n1 ≤ l0.length := by have := of_decide_eq_false c7b0; omega
  have hl135 : y135.length = l0.length := by rw [Ny135.out]; simp
  have hl138 : y138.length = l0.length := by rw [Ny138.out]; simp
  have HL1 := Aside0.mk hl135
  have HL2 := Aside0.mk hl138
  by_cases hz : 0 < l0.length
  · rcases (Kd.own_of_R HO137.out).2 with ⟨hv1, hz1⟩ | ⟨g1, k1, cur1, hv1, hb1, hh1, hnc1, hcm1, hcs1, ht1⟩
    · omega
    rcases (Kd.own_of_R HO140.out).2 with ⟨hv2, hz2⟩ | ⟨g2, k2, cur2, hv2, hb2, hh2, hnc2, hcm2, hcs2, ht2⟩
    · omega
    rw [hl135] at hv1 hnc1
    rw [hl138] at hv2 hnc2
    subst hv1 hv2
    clear hb1 hh1 hcm1 hcs1 ht1 hb2 hh2 hcm2 hcs2 ht2
    have HLE := Aside0.mk hle
    have HK1 := Aside0.mk hnc1
    have HK2 := Aside0.mk hnc2
    have HZ := Aside0.mk hz
    clear hl135 hl138
    have hq1 : n1 ≤ k1 := by omega
    have hq2 : n1 ≤ k2 := by omega
    by_cases hlt : n1 < l0.length
    · have hq3 : n1 < k2 := by omega
      have hq4 : n1 < c0 := by have := HC0.out; omega
      have hq5 : n1 ≤ c0 := by omega
      have hq6 : l0.length ≤ k2 := hnc2
      have hq7 : l0.length ≤ c0 := HC0.out
      obtain ⟨ad, ead, hcells⟩ := HR0.out.2.2 (by omega)
      subst ead
      have HCE := Aside0.mk hcells
      clear hcells
      have HLT := Aside0.mk hlt
      go_wp2_with ((with_reducible refine gate_builtin (b := .copy) (xs := #[.tmp 30, .tmp 31]) rfl ?_); refine lag_Cut.copy_at (0 : Int) w.heap.size rfl (.tmp 30) (.tmp 31) 22 22 3 rfl Try.underlying22 (by have hh_ := congrArg (Option.map (fun z => z.2.1)) info3; simpa [Option.map_map, Function.comp_def] using hh_) _ y135 l0 0 _ n1 n1 _ l0.length c0 _ rfl rfl ?hD ?hfit HO137.out (Kd.C_below HR0.out HB.out) HB.out (below_size HB.out) ?_; (case hD => intro _ g cap e; simp only [Value.slice.injEq, Option.some.injEq, Addr.mk.injEq] at e; rw [e.1.1]); (case hfit => have := HLE.out; have := HL1.out; omega); intro w20 ho hb hg; have n0_ := Aside0.mk ho; have n1_ := Aside0.mk (Kd.R_grown HO140.out hg (fun _ hk => hk)); have n2_ := Aside0.mk hb; clear HO137 HO140 HB ho hb hg; have HO137 := n0_; have HO140 := n1_; have HB := n2_; clear n0_ n1_ n2_)
      go_region_law? (refine lag_Cut.step_at (0 : Int) w.heap.size rfl (.tmp 35) (.tmp 38) 22 22 3 rfl Try.underlying22 (by have hh_ := congrArg (Option.map (fun z => z.2.1)) info3; simpa [Option.map_map, Function.comp_def] using hh_) _ y138 (l0.drop n1) n1 _ (l0.length - n1) (k2 - n1) _ (l0.length - n1) (c0 - n1) _ rfl rfl ?hD ?hfit (Kd.R_drew HO140.out) ?hR (below_drew1 HB.out) (below_size (below_drew1 HB.out)) ?_; (case hD => intro _ g cap e; simp only [Value.slice.injEq, Option.some.injEq, Addr.mk.injEq] at e; rw [← e.1.1]; first | rfl | (simp [Addr.add]; done) | (simp [Addr.add]; intro hh_; have := HLT.out; have := HK2.out; omega)); (case hfit => have := HLE.out; have := HL2.out; omega); (case hR => have hh_ := Kd.C_drew (Kd.C_below (Kd.C_drop HR0.out HLE.out HC0.out) HB.out); rw [List.length_drop] at hh_; first | exact hh_ | (simpa [Addr.add, Kd.int, Kd.scalar] using hh_)); intro w21 ho hb hg; have n0_ := Aside0.mk (Kd.R_grown (Kd.R_drew HO137.out) hg (fun _ hk => hk)); have n1_ := Aside0.mk ho; have n2_ := Aside0.mk hb; clear HO137 HO140 HB ho hb hg; have HO137 := n0_; have HO140 := n1_; have HB := n2_; clear n0_ n1_ n2_)
      go_wp2
      go_ret3
      refine ⟨_, _, rfl, ?_, ?_, HB.out⟩
      · have hh_ := HO137.out
        rw [Ny135.out, Int.toNat_natCast, lag_Cut.e1 l0 l0.length n1 HLE.out] at hh_
        exact hh_
      · have hh_ := HO140.out
        rw [Ny138.out, Int.toNat_natCast, lag_Cut.e2 l0 l0.length n1 HLE.out rfl] at hh_
        exact hh_
    · have heq : n1 = l0.length := by omega
      have hq6 : l0.length ≤ k2 := hnc2
      have hq7 : l0.length ≤ c0 := HC0.out
      have hq5 : n1 ≤ c0 := by omega
      have hz0 : l0.length - n1 = 0 := by omega
      obtain ⟨ad, ead, hcells⟩ := HR0.out.2.2 (by omega)
      subst ead
      clear hcells
      have HEQ := Aside0.mk heq
      clear heq
      go_wp2_with ((with_reducible refine gate_builtin (b := .copy) (xs := #[.tmp 30, .tmp 31]) rfl ?_); refine lag_Cut.copy_at (0 : Int) w.heap.size rfl (.tmp 30) (.tmp 31) 22 22 3 rfl Try.underlying22 (by have hh_ := congrArg (Option.map (fun z => z.2.1)) info3; simpa [Option.map_map, Function.comp_def] using hh_) _ y135 l0 0 _ n1 n1 _ l0.length c0 _ rfl rfl ?hD ?hfit HO137.out (Kd.C_below HR0.out HB.out) HB.out (below_size HB.out) ?_; (case hD => intro _ g cap e; simp only [Value.slice.injEq, Option.some.injEq, Addr.mk.injEq] at e; rw [e.1.1]); (case hfit => have := HLE.out; have := HL1.out; omega); intro w20 ho hb hg; have n0_ := Aside0.mk ho; have n1_ := Aside0.mk (Kd.R_grown HO140.out hg (fun _ hk => hk)); have n2_ := Aside0.mk hb; clear HO137 HO140 HB ho hb hg; have HO137 := n0_; have HO140 := n1_; have HB := n2_; clear n0_ n1_ n2_)
      go_region_law? (refine lag_Cut.step_zero rfl (.tmp 35) (.tmp 38) 22 22 3 rfl Try.underlying22 (by have hh_ := congrArg (Option.map (fun z => z.2.1)) info3; simpa [Option.map_map, Function.comp_def] using hh_) _ _ _ _ _ _ rfl rfl (by first | exact hz0 | rfl) ?_)
      all_goals go_wp2
      all_goals go_ret3
      all_goals
        refine ⟨.slice (some ⟨g1, 0, none⟩) l0.length k1, .slice (some ⟨g2, 0, none⟩) l0.length k2, by first | rfl | (simp [*]; done), ?_, ?_, ?_⟩
        · have hh_ := HO137.out
          rw [Ny135.out, Int.toNat_natCast, lag_Cut.e1 l0 l0.length n1 HLE.out] at hh_
          have hh2_ := Kd.R_drew hh_
          first | exact hh_ | exact hh2_ | (simp only [hz0, List.replicate_zero, List.append_nil] at hh_ hh2_; first | exact hh_ | exact hh2_)
        · have hh_ := HO140.out
          rw [Ny138.out, Int.toNat_natCast] at hh_
          have e3_ : List.replicate n1 (0 : Int) ++ l0.drop n1 = List.replicate l0.length 0 := by rw [List.drop_of_length_le (by have := HEQ.out; omega), List.append_nil, HEQ.out]
          rw [← e3_] at hh_
          have hh2_ := Kd.R_drew hh_
          first | exact hh_ | exact hh2_ | (subst_vars; first | exact hh_ | exact hh2_)
        · have hh2_ := below_drew1 HB.out
          first | exact HB.out | exact hh2_
  · have h0 : l0.length = 0 := by omega
    have hn1 : n1 = 0 := by omega
    obtain ⟨A1, k1, hv1⟩ := Kd.R_slice HO137.out
    obtain ⟨A2, k2, hv2⟩ := Kd.R_slice HO140.out
    rw [hl135] at hv1
    rw [hl138] at hv2
    subst hv1 hv2
    have hq1 : n1 ≤ k1 := by omega
    have hq2 : n1 ≤ k2 := by omega
    have hq6 : l0.length ≤ k2 := by omega
    have hq7 : l0.length ≤ c0 := HC0.out
    have hq5 : n1 ≤ c0 := by omega
    have hz0 : l0.length - n1 = 0 := by omega
    have HLE := Aside0.mk hle
    have HN1 := Aside0.mk hn1
    have HEQ : Aside0 (n1 = l0.length) := ⟨by omega⟩
    clear hl135 hl138 hz h0 hn1
    all_goals go_wp2_with ((with_reducible refine gate_builtin (b := .copy) (xs := #[.tmp 30, .tmp 31]) rfl ?_); refine lag_Cut.copy_at (0 : Int) w.heap.size rfl (.tmp 30) (.tmp 31) 22 22 3 rfl Try.underlying22 (by have hh_ := congrArg (Option.map (fun z => z.2.1)) info3; simpa [Option.map_map, Function.comp_def] using hh_) _ y135 l0 0 _ n1 n1 _ l0.length c0 _ rfl rfl ?hD ?hfit HO137.out (Kd.C_below HR0.out HB.out) HB.out (below_size HB.out) ?_; (case hD => intro hpos g cap e; exact absurd hpos (by have := HN1.out; omega)); (case hfit => have := HLE.out; have := HL1.out; omega); intro w20 ho hb hg; have n0_ := Aside0.mk ho; have n1_ := Aside0.mk (Kd.R_grown HO140.out hg (fun _ hk => hk)); have n2_ := Aside0.mk hb; clear HO137 HO140 HB ho hb hg; have HO137 := n0_; have HO140 := n1_; have HB := n2_; clear n0_ n1_ n2_)
    all_goals go_region_law? (refine lag_Cut.step_zero rfl (.tmp 35) (.tmp 38) 22 22 3 rfl Try.underlying22 (by have hh_ := congrArg (Option.map (fun z => z.2.1)) info3; simpa [Option.map_map, Function.comp_def] using hh_) _ _ _ _ _ _ rfl rfl (by first | exact hz0 | rfl) ?_)
    all_goals go_wp2
    all_goals go_ret3
    all_goals
      refine ⟨.slice A1 l0.length k1, _, by first | rfl | (simp [*]; done), ?_, ?_, ?_⟩
      · have hh_ := HO137.out
        rw [Ny135.out, Int.toNat_natCast, lag_Cut.e1 l0 l0.length n1 HLE.out] at hh_
        have hh2_ := Kd.R_drew hh_
        first | exact hh_ | exact hh2_ | (simp only [hz0, List.replicate_zero, List.append_nil] at hh_ hh2_; first | exact hh_ | exact hh2_ | (subst_vars; first | exact hh_ | exact hh2_)) | (subst_vars; first | exact hh_ | exact hh2_)
      · have hh_ := HO140.out
        rw [Ny138.out, Int.toNat_natCast] at hh_
        have e3_ : List.replicate n1 (0 : Int) ++ l0.drop n1 = List.replicate l0.length 0 := by rw [List.drop_of_length_le (by have := HEQ.out; omega), List.append_nil, HEQ.out]
        rw [← e3_] at hh_
        have hh2_ := Kd.R_drew hh_
        first | exact hh_ | exact hh2_ | (subst_vars; first | exact hh_ | exact hh2_)
      · have hh2_ := below_drew1 HB.out
        first | exact HB.out | exact hh2_

end Go.Proofs.Ytajdbccapandgaa.PAll
