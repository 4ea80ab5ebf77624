-- Written by a program of this session, after the kit's print
import Derived.Test.YtbopgopggnagpaaPAllx0
import Derived.Test.YtbopgopggnagpaaPAllx2
import Derived.Test.YtbopgopggnagpaaPAllx6
namespace Go.Proofs.Ytbopgopggnagpaa.PAll
open Go.RowKit Go.Proofs.YtbopgopggnagpaaW.PrintWords Go.Proofs.YtbopgopggnagpaaW.PrintLast Go.Proofs.YtbopgopggnagpaaW.PrintMore
attribute [local go_sem] max2_int min2_int max_two min_two max_three min_three max_four min_four   -- for this text's walks alone
set_option linter.unusedVariables false
set_option linter.unusedSimpArgs false

/-! ### cross_Pieces: function 16 -/
section
attribute [local go_sem] Oper.semAt_some
theorem slices_Chunk.add_block (a : Addr) (j : Nat) : (a.add j).block = a.block := by
  unfold Addr.add
  split <;> rfl
/-- How many pieces there are. -/
def slices_Chunk.cnt (N m : Nat) : Nat := (N + m - 1) / m
/-- A piece, as it is yielded. -/
def slices_Chunk.pv (ad : Addr) (N m j : Nat) : Value := if m * j < N then .slice (some (ad.add (m * j))) (min m (N - m * j)) (min m (N - m * j)) else .slice none 0 0
theorem slices_Chunk.lt_cnt {N m j : Nat} (hm : 1 ≤ m) : j < slices_Chunk.cnt N m ↔ m * j < N := by
  unfold slices_Chunk.cnt
  rw [Nat.lt_div_iff_mul_lt (by omega), Nat.mul_comm]
  omega
theorem slices_Chunk.w64 {x : Int} (h0 : -9223372036854775808 ≤ x) (h1 : x ≤ 9223372036854775807) : wrap64 x = x := by unfold wrap64; omega
theorem slices_Chunk.facts {q N cap m len e : Nat} (hlt : q < N) (hcap : N ≤ cap) (hm : 1 ≤ m) (hm2 : m ≤ 1000000) (hN : N ≤ 1000000) (hlen : len = min m (N - q)) (he : e = q + len) :
    wrap64 ((q : Int) + (len : Int)) = (e : Int) ∧ q ≤ e ∧ e ≤ cap ∧ e - q = len ∧ ¬ e = q ∧ (0 : Int) ≤ (e : Int) ∧ wrap64 ((q : Int) + (m : Int)) = ((q + m : Nat) : Int) := by
  refine ⟨?_, by omega, by omega, by omega, by omega, by omega, ?_⟩
  · rw [slices_Chunk.w64 (by omega) (by omega)]; omega
  · rw [slices_Chunk.w64 (by omega) (by omega)]; omega
/-- What a round must keep: the boxes of the list and of the step, and the cells below n₀. -/
def slices_Chunk.Kp (Bs n₀ : Nat) (W W' : World) : Prop := ∀ x v, (x = ⟨Bs, 0, none⟩ ∨ x = ⟨Bs + 1, 0, none⟩ ∨ x.block < n₀) → W.cell? x = some v → W'.cell? x = some v
theorem slices_Chunk.Kp_t {Bs n₀ : Nat} {A B C : World} (h : slices_Chunk.Kp Bs n₀ A B) (k : slices_Chunk.Kp Bs n₀ B C) : slices_Chunk.Kp Bs n₀ A C := fun x v hx hv => k x v hx (h x v hx hv)
theorem slices_Chunk.Kp_b {Bs n₀ : Nat} {w : World} (W : World) (l : Nat) (o o' : Obj) (_ : w.heap.size ≤ l) (h : W.heap[l]? = some o) (ho : o.isCells = false) (_ : o.isWalk = false) : slices_Chunk.Kp Bs n₀ W (W.putObj l o') :=
  fun x v _ hv => cell_kept hv (grownBy_putObj' W l o') (fun r e => by cases e; exact ⟨o, h, ho⟩)
set_option maxRecDepth 100000 in
set_option maxHeartbeats 4000000 in
theorem slices_Chunk.chunk1_in (n : Nat) (hn : 1 ≤ n) (l Bs n₀ cap : Nat) (A : Option Addr) (N m : Nat) (hm : 1 ≤ m) (hm2 : m ≤ 1000000) (hN : N ≤ 1000000) (hcap : N ≤ cap) (ad : Addr) (hA : 0 < N → A = some ad) (enc : Nat → Value) (henc : ∀ j, m * j < N → enc j = .slice (some (ad.add (m * j))) (min m (N - m * j)) (min m (N - m * j))) (J Jx : List Nat → World → Prop)
    (hY : ∀ pre j W, J pre W → pre.length < slices_Chunk.cnt N m → YieldAt Fence.wide (n - 1) Try.prog l #[enc j] W fun e W' =>
      (e = .returned (.bool true) ∧ J (pre ++ [j]) W' ∧ slices_Chunk.Kp Bs n₀ W W') ∨ (e = .returned (.bool false) ∧ Jx (pre ++ [j]) W'))
    (W : World) (hJ : AbidesFrom W.heap.size J) (hBs : W.cell? ⟨Bs, 0, none⟩ = some (.slice A N cap)) (hBn : W.cell? ⟨Bs + 1, 0, none⟩ = some (.int .i64 (m : Int))) (h0 : J [] W) :
    CallsIn Fence.wide n Try.prog 57 #[.func (.yield l) #[] #[], .pointer (some ⟨Bs, 0, none⟩), .pointer (some ⟨Bs + 1, 0, none⟩)] W fun e W' => (∃ v, e = .returned v) ∧
      ((∃ ys, ys = List.range (slices_Chunk.cnt N m) ∧ J ys W') ∨ (∃ pre, (∃ k, k ≤ slices_Chunk.cnt N m ∧ pre = List.range k) ∧ Jx pre W')) := by
  refine callsIn_of_wp Try.func57 rfl trivial ?_ rfl
  simp only [Try.ntmps57, List.size_toArray, List.length_cons, List.length_nil, Nat.reduceAdd, Nat.reduceSub, Array.replicate_succ, Array.replicate_zero, List.push_toArray, List.append_toArray, List.nil_append, List.cons_append]
  gi_wp2
  gi_loopw [4] (fun i wr => ∃ j : Nat, i = .int .i64 ((m * j : Nat) : Int) ∧ j ≤ slices_Chunk.cnt N m ∧ J (List.range j) wr ∧ wr.cell? ⟨Bs, 0, none⟩ = some (.slice A N cap) ∧ wr.cell? ⟨Bs + 1, 0, none⟩ = some (.int .i64 (m : Int)))
    (fun i _ => ((N + m : Nat) - intOf i).toNat)
  case atStart => exact ⟨0, by simp, Nat.zero_le _, h0, hBs, hBn⟩
  case round =>
    obtain ⟨j, rfl, hjc, hJs, hBs', hBn'⟩ := hrel
    generalize hq : m * j = q
    by_cases hlt : q < N
    · have hA' := hA (by omega)
      subst hA'
      have c1 : decide ((q : Int) < (N : Int)) = true := decide_eq_true (by omega)
      have c2 : q ≤ N := by omega
      have c3 : q ≤ cap := by omega
      have c4 : (0 : Int) ≤ (q : Int) := by omega
      obtain ⟨len, hlen⟩ : ∃ len, len = min m (N - q) := ⟨_, rfl⟩
      have c5 : (if N - q < m then ((N - q : Nat) : Int) else (m : Int)) = (len : Int) := by split <;> omega
      obtain ⟨e, he⟩ : ∃ e, e = q + len := ⟨_, rfl⟩
      have hd_ := slices_Chunk.facts hlt hcap hm hm2 hN hlen he
      have HD := Aside0.mk hd_
      clear hd_
      have HJ := Aside0.mk hJs
      have HH := Aside0.mk (⟨hq, hlt, hlen⟩ : _ ∧ _ ∧ _)
      clear hJs hlen he
      gi_wp2
      refine wpIn_wide.2 ?_
      refine start_ (n := 7) (S := fun w' => w'.cell? ⟨Bs, 0, none⟩ = some (.slice (some ad) N cap) ∧ w'.cell? ⟨Bs + 1, 0, none⟩ = some (.int .i64 (m : Int))) (ds := []) #[false, false, false, false, false, false, false] (by kernel_rfl) rfl rfl ⟨hBs', hBn'⟩ (fun hHeld => ?_)
      refine take_ (i := 0) (N := some 13) (v := ?_) (a' := ?_) #[true, false, false, false, false, false, false] rfl rfl (by kernel_rfl) (fun _ _ _ h => h) (Or.inl ⟨by rfl, ?_⟩) hHeld ?_ ?_
      rotate_left
      · rintro w' ⟨s0, s1⟩
        go_simp
        with_reducible rfl
      rotate_left
      · simp only [Act.put, List.setIfInBounds_toArray, List.set_cons_zero, List.set_cons_succ, i64_w, i32_w]
        rfl
      refine take_ (i := 1) (N := some 14) (v := ?_) (a' := ?_) #[true, true, false, false, false, false, false] rfl rfl (by kernel_rfl) (fun _ _ _ h => h) (Or.inl ⟨by rfl, ?_⟩) hHeld ?_ ?_
      rotate_left
      · rintro w' ⟨s0, s1⟩
        go_simp
        with_reducible rfl
      rotate_left
      · simp only [Act.put, List.setIfInBounds_toArray, List.set_cons_zero, List.set_cons_succ, i64_w, i32_w]
        rfl
      refine pure_ (i := 2) (N := some 15) (v := ?_) (a' := ?_) #[true, true, true, false, false, false, false] rfl rfl (by kernel_rfl) (fun _ _ _ h => h) (Or.inl ⟨by rfl, ?_⟩) ?_ ?_
      rotate_left
      · intro w'
        go_simp
        with_reducible rfl
      rotate_left
      · simp only [Act.put, List.setIfInBounds_toArray, List.set_cons_zero, List.set_cons_succ, i64_w, i32_w]
        rfl
      refine pure_ (i := 3) (N := some 16) (v := ?_) (a' := ?_) #[true, true, true, true, false, false, false] rfl rfl (by kernel_rfl) (fun _ _ _ h => h) (Or.inl ⟨by rfl, ?_⟩) ?_ ?_
      rotate_left
      · intro w'
        go_simp
        with_reducible rfl
      rotate_left
      · simp only [Act.put, List.setIfInBounds_toArray, List.set_cons_zero, List.set_cons_succ, i64_w, i32_w]
        rfl
      refine pure_ (i := 4) (N := some 17) (v := ?_) (a' := ?_) #[true, true, true, true, true, false, false] rfl rfl (by kernel_rfl) (fun _ _ _ h => h) (Or.inl ⟨by rfl, ?_⟩) ?_ ?_
      rotate_left
      · intro w'
        go_simp
        with_reducible rfl
      rotate_left
      · simp only [Act.put, List.setIfInBounds_toArray, List.set_cons_zero, List.set_cons_succ, i64_w, i32_w]
        rfl
      refine pure_ (i := 5) (N := some 18) (v := ?_) (a' := ?_) #[true, true, true, true, true, true, false] rfl rfl (by kernel_rfl) (fun _ _ _ h => h) (Or.inl ⟨by rfl, ?_⟩) ?_ ?_
      rotate_left
      · intro w'
        go_simp
        with_reducible rfl
      rotate_left
      · simp only [Act.put, List.setIfInBounds_toArray, List.set_cons_zero, List.set_cons_succ, i64_w, i32_w]
        rfl
      refine pure_ (i := 6) (N := some 5) (v := ?_) (a' := ?_) #[true, true, true, true, true, true, true] rfl rfl (by kernel_rfl) (fun _ _ _ h => h) (Or.inl ⟨by rfl, ?_⟩) ?_ ?_
      rotate_left
      · intro w'
        go_simp
        with_reducible rfl
      rotate_left
      · simp only [Act.put, List.setIfInBounds_toArray, List.set_cons_zero, List.set_cons_succ, i64_w, i32_w]
        rfl
      refine done_ (by kernel_rfl) ?_
      (try rw [c5])
      obtain ⟨d1, d2, d3, d4, d5, d6, d7⟩ := HD.out
      have d8 : ¬ cap = q := fun h_ => absurd (h_ ▸ hcap) (Nat.not_le.2 hlt)
      have hJd := hJ _ _ _ none HJ.out (⟨rfl, rfl, rfl, Nat.le_refl _, fun _ _ _ => rfl⟩ : wr.grownBy wr.drew none) (fun r e => by cases e)
      have hBd : wr.drew.cell? ⟨Bs, 0, none⟩ = some (.slice (some ad) N cap) := hBs'
      have hBnd : wr.drew.cell? ⟨Bs + 1, 0, none⟩ = some (.int .i64 (m : Int)) := hBn'
      obtain ⟨fn, tmps, assign, body, hy, hR⟩ := hY _ j wr.drew hJd (by rw [List.length_range, slices_Chunk.lt_cnt hm, hq]; exact hlt)
      rw [henc j (by rw [hq]; exact hlt), hq, ← HH.out.2.2] at hy
      clear hJd hBs' hBn' HJ hHeld c5 hlt
      (try dsimp only at hy)
      generalize wr.drew = wd at hBd hBnd hy hR ⊢
      gi_wp2
      refine hR.mono ?_
      rintro e3 W3 (⟨rfl, hJ3, hk3⟩ | ⟨rfl, hJx3⟩)
      · have q1 := hk3 _ _ (.inl rfl) hBd
        have q2 := hk3 _ _ (.inr (.inl rfl)) hBnd
        have HJ3 := Aside0.mk hJ3
        have D7 := Aside0.mk d7
        clear hJ3 hk3 hR hBd hBnd d1 d2 d3 d4 d5 d6 d7 d8 hcap hm2 hN
        gi_wp2
        go_roundw
        case rel => exact ⟨j + 1, by rw [D7.out, Nat.mul_succ, HH.out.1], (slices_Chunk.lt_cnt hm).2 (by rw [HH.out.1]; exact HH.out.2.1), by rw [List.range_succ]; exact HJ3.out, q1, q2⟩
        case measure =>
          have h_ := HH.out.2.1
          rw [D7.out]
          simp only [intOf]
          omega
      · have HJ3 := Aside0.mk hJx3
        clear hJx3
        gi_wp2
        refine bodyPost_ret (results_none rfl _ _ _) rfl ?_
        exact ⟨⟨_, rfl⟩, .inr ⟨_, ⟨j + 1, (slices_Chunk.lt_cnt hm).2 (by rw [HH.out.1]; exact HH.out.2.1), by rw [List.range_succ]⟩, HJ3.out⟩⟩
    · have c1 : decide ((q : Int) < (N : Int)) = false := decide_eq_false (by omega)
      have hj : j = slices_Chunk.cnt N m := Nat.le_antisymm hjc (Nat.not_lt.1 fun h => hlt (hq ▸ (slices_Chunk.lt_cnt hm).1 h))
      gi_wp2
      go_end0
      exact ⟨⟨_, rfl⟩, .inl ⟨_, rfl, hj ▸ hJs⟩⟩
set_option maxHeartbeats 1000000 in
theorem slices_Chunk.chunk_in (n : Nat) (a : Option Addr) (len cap m : Nat) (hm : 1 ≤ m) (w : World) :
    CallsIn Fence.wide n Try.prog 39 #[.slice a len cap, .int .i64 (m : Int)] w fun e w' => e = .returned (.func (.func 57) #[] #[.pointer (some ⟨w.heap.size, 0, none⟩), .pointer (some ⟨w.heap.size + 1, 0, none⟩)]) ∧ w' = (w.alloc (.cells #[.slice a len cap] 22)).alloc (.cells #[.int .i64 (m : Int)] 3) := by
  have h1 : decide ((m : Int) < 1) = false := decide_eq_false (by omega)
  refine callsIn_of_wp Try.func39 rfl trivial ?_ rfl
  simp only [Try.ntmps39, List.size_toArray, List.length_cons, List.length_nil, Nat.reduceAdd, Nat.reduceSub, Array.replicate_succ, Array.replicate_zero, List.push_toArray, List.append_toArray, List.nil_append, List.cons_append]
  gi_wp2
  go_ret
  exact ⟨rfl, rfl⟩
theorem slices_Chunk.stops (n : Nat) (hn : 1 ≤ n) (Bs n₀ cap : Nat) (A : Option Addr) (N m : Nat) (hm : 1 ≤ m) (hm2 : m ≤ 1000000) (hN : N ≤ 1000000) (hcap : N ≤ cap) (ad : Addr) (hA : 0 < N → A = some ad) (enc : Nat → Value) (henc : ∀ j, m * j < N → enc j = .slice (some (ad.add (m * j))) (min m (N - m * j)) (min m (N - m * j))) (w : World) (hBw : Bs + 1 < w.heap.size)
    (hBs : w.cell? ⟨Bs, 0, none⟩ = some (.slice A N cap)) (hBn : w.cell? ⟨Bs + 1, 0, none⟩ = some (.int .i64 (m : Int))) :
    SeqStopsK Fence.wide n Try.prog 57 #[.pointer (some ⟨Bs, 0, none⟩), .pointer (some ⟨Bs + 1, 0, none⟩)] (fun j : Nat => #[enc j]) (slices_Chunk.Kp Bs n₀) (fun ys => ys = List.range (slices_Chunk.cnt N m))
      (fun pre => ∃ k, k ≤ slices_Chunk.cnt N m ∧ pre = List.range k) (slices_Chunk.cnt N m) w := fun l J Jx W hW hJ _ hY h0 =>
  slices_Chunk.chunk1_in n hn l Bs n₀ cap A N m hm hm2 hN hcap ad hA enc henc J Jx hY W hJ ((hW.cell (p := ⟨Bs, 0, none⟩) (by show Bs < w.heap.size; omega)).trans hBs) ((hW.cell (p := ⟨Bs + 1, 0, none⟩) hBw).trans hBn) h0
end
/-- The pieces of a stream. -/
def cross_Pieces.pc (l : List Int) : List (List Int) := (List.range (slices_Chunk.cnt l.length 32)).map fun j => (l.drop (32 * j)).take 32
def cross_Pieces.f (l0 : List Int) : Option (List (List Int) × Int) := (sample_Check.f l0).bind fun t => if t = 0 then (if l0.length ≤ 1000000 then some (cross_Pieces.pc l0, 0) else none) else some ([], t)
section
open Go.Shelf
attribute [local go_sem] Oper.semAt_some
/-! ### A region that draws its order, in a round of a range over a function: its walk outside a round serves -/
theorem cross_Pieces.upon_round {l n : Nat} {P : Program} {o : Oper} {a : Act} {next : Act → World → Prop} {Q : Exit → Act → World → Prop} : ∀ {r : Result Next}, o.upon P a next Q r → o.uponIn (Fence.wide.inRound l) n P a next Q r := by
  intro r h
  match r, h with
  | .ok (.value v) w', h => exact h
  | .ok .skip w', h => exact h
  | .ok (.defer d) w', h => exact h
  | .ok (.enter f args) w', h => exact ⟨fun e => (by cases e), CallsIn.inRound l (callsIn_wide.2 h)⟩
  | .ok (.row row args) w', h => exact ⟨fun e => (by cases e), fun c cs _ => let ⟨v, w'', q, s⟩ := h c cs; ⟨v, w'', q, stepsIn_wide.2 s⟩⟩
  | .halt (.panic v) w', h => exact h
theorem cross_Pieces.wpOp_round {l n i : Nat} {P : Program} {ops : Array Oper} {Q : Exit → Act → World → Prop} {K : Act → World → Prop} {a : Act} {w : World} (hnd : ∀ (j : Nat) (o : Oper), ops[j]? = some o → ∀ c, o.op ≠ .defer c) (hQ : ¬ LetsOut Q)
    (h : wpOp P ops Q i K a w) : wpOpIn (Fence.wide.inRound l) n P ops Q i K a w := by
  unfold wpOp at h
  unfold wpOpIn
  split at h
  · rename_i e
    rw [e]
    exact h
  · rename_i o e
    rw [e]
    by_cases hw : Region.wanted o (yielded ops a.tmps) = true
    · rw [if_pos hw] at h
      simp only [hw, if_true]
      rcases h with h | h
      · refine ⟨fun _ _ => trivial, ?_⟩
        rw [Oper.semAt_eq _ _ _ (hnd i o e)]
        exact cross_Pieces.upon_round h
      · exact absurd h.2 hQ
    · rw [if_neg hw] at h
      simp only [hw]
      exact ⟨fun _ _ => trivial, h⟩
theorem cross_Pieces.wpAny_round {l n : Nat} {P : Program} {md : Region.Mode} {ops : Array Oper} {Q : Exit → Act → World → Prop} (hnd : ∀ (j : Nat) (o : Oper), ops[j]? = some o → ∀ c, o.op ≠ .defer c) (hQ : ¬ LetsOut Q) :
    ∀ (fuel : Nat) (listed : Array Bool) (a : Act) (w : World), wpAny P md ops Q fuel listed a w → wpAnyIn (Fence.wide.inRound l) n P md ops Q fuel listed a w
  | 0, _, _, _, h => h
  | fuel + 1, listed, _, _, h => ⟨h.1, fun i hi => cross_Pieces.wpOp_round hnd hQ (wpOp_mono (fun a' w' h' => cross_Pieces.wpAny_round hnd hQ fuel _ a' w' h') (h.2 i hi))⟩
def cross_Pieces.noDefer (o : Oper) : Bool := match o.op with | .defer _ => false | _ => true
theorem cross_Pieces.start_round {l n id k : Nat} {P : Program} {ops : Array Oper} {Q : Exit → Act → World → Prop} {S : World → Prop} {ds : List Nat} {a : Act} {w : World} (lb : Array Bool) (hm : P.follows .mixedOrders = true) (hn : ops.size = k) (hl : Array.replicate k false = lb) (hnd : ops.all cross_Pieces.noDefer = true) (hQ : ¬ LetsOut Q) (hS : S w.drew)
    (h : S w.drew → wpAnyLast P .any ops Q S ds k lb a w.drew) : (Code.region id ops true).wpIn (Fence.wide.inRound l) n P Q a w := by
  subst hn
  subst hl
  refine wpIn_region_any hm (cross_Pieces.wpAny_round (fun j o e c hc => ?_) hQ _ _ _ _ (wpAny_of_last _ _ _ _ (h hS)))
  have h1 := Array.all_eq_true'.1 hnd o (Array.mem_of_getElem? e)
  unfold cross_Pieces.noDefer at h1
  rw [hc] at h1
  cases h1
/-- What stands between two rounds. -/
structure cross_Pieces.St (w0 : World) (h5 : Nat) (ps : List (List Int)) (W : World) : Prop where
  bel : Below w0.heap.size w0 W
  pos : w0.heap.size ≤ h5
  siz : h5 + 3 ≤ W.heap.size
  box : ∃ v, Boxed W h5 34 v ∧ Kd.S (Kd.slice 3 (Kd.int .i64)) 22 W w0.heap.size (fun k => k ≠ h5 + 1 ∧ k ≠ h5 + 1 + 1) v ps
theorem cross_Pieces.St.kept {w0 : World} {h5 : Nat} {ps : List (List Int)} {W W' : World} {row : Option Nat} (s : cross_Pieces.St w0 h5 ps W) (hg : W.grownBy W' row)
    (hr : ∀ r, row = some r → w0.heap.size ≤ r ∧ ∃ o : Obj, W.heap[r]? = some o ∧ o.isCells = false) : cross_Pieces.St w0 h5 ps W' := by
  have hne : ∀ {B : Nat} {q : TypeId} {cells : Array Value}, W.heap[B]? = some (.cells cells q (0, 0)) → some B ≠ row := by
    intro B q cells hb e
    obtain ⟨_, o, ho, hc⟩ := hr B e.symm
    rw [hb] at ho
    obtain rfl := Option.some.inj ho
    simp [Obj.isCells] at hc
  obtain ⟨v, hb, hs⟩ := s.box
  refine ⟨s.bel.grown hg s.bel.size (fun k e => (hr k e).1), s.pos, Nat.le_trans s.siz hg.size, v, hb.kept hg (hne hb), ?_⟩
  exact Kd.S_mono (Kd.S_grown (Kd.S_bound hs) hg (fun k hk => by obtain ⟨_, _, _, q, _, cells, hc⟩ := hk; exact hne hc)) (fun _ h => h.1)
theorem cross_Pieces.St.alloc {w0 : World} {h5 : Nat} {ps : List (List Int)} {W : World} (s : cross_Pieces.St w0 h5 ps W) (o : Obj) : cross_Pieces.St w0 h5 ps (W.alloc o) :=
  s.kept (World.grownBy_alloc W o none) (fun r e => by cases e)
theorem cross_Pieces.St.drew {w0 : World} {h5 : Nat} {ps : List (List Int)} {W : World} (s : cross_Pieces.St w0 h5 ps W) : cross_Pieces.St w0 h5 ps W.drew :=
  s.kept (⟨rfl, rfl, rfl, Nat.le_refl _, fun _ _ _ => rfl⟩ : W.grownBy W.drew none) (fun r e => by cases e)
/-- A piece is read. -/
theorem cross_Pieces.piece {w : World} {A : Option Addr} {ad : Addr} {l : List Int} {c : Nat} (hr : Kd.C (Kd.int .i64) w A l.length l) (hc : l.length ≤ c) (hA : 0 < l.length → A = some ad) (j : Nat) :
    ∃ (B : Option Addr) (q : List Int) (d : Nat), q = (l.drop (32 * j)).take 32 ∧ slices_Chunk.pv ad l.length 32 j = .slice B q.length d ∧ q.length ≤ d ∧ Kd.C (Kd.int .i64) w B q.length q ∧ q.length ≤ l.length := by
  unfold slices_Chunk.pv
  by_cases hj : 32 * j < l.length
  · rw [if_pos hj]
    obtain rfl := hA (by omega)
    have h1 := Kd.C_drop (m := 32 * j) (c := c) hr (Nat.le_of_lt hj) hc
    rw [if_neg (by omega), show (Kd.int .i64).sz = 1 from rfl, Nat.mul_one] at h1
    have hl : ((l.drop (32 * j)).take 32).length = min 32 (l.length - 32 * j) := by rw [List.length_take, List.length_drop]
    have h2 := Kd.C_take (m := min 32 (l.length - 32 * j)) h1 (by rw [List.length_drop]; exact Nat.min_le_right _ _)
    have h3 : (l.drop (32 * j)).take (min 32 (l.length - 32 * j)) = (l.drop (32 * j)).take 32 := by
      rw [← List.length_drop, List.take_eq_take_min.symm]
    rw [h3] at h2
    exact ⟨_, _, _, rfl, by rw [hl]; rfl, by rw [hl]; exact Nat.le_refl _, h2, by rw [hl]; omega⟩
  · rw [if_neg hj]
    have h0 : (l.drop (32 * j)).take 32 = [] := by rw [List.drop_of_length_le (by omega), List.take_nil]
    refine ⟨none, [], 0, h0.symm, rfl, Nat.le_refl _, ⟨rfl, by decide, fun h => absurd h (by simp)⟩, Nat.zero_le _⟩
theorem cross_Pieces.clone_f {l : List Int} (h : l.length ≤ 1000000) : slices_Clone_int_int.f l = some l := by
  simp only [slices_Clone_int_int.f, Option.bind_some, List.length_nil, List.nil_append, Nat.zero_add]
  rw [if_pos (by omega)]
set_option maxHeartbeats 8000000 in
set_option maxRecDepth 100000 in
theorem cross_Pieces.walk (A0 : Option Addr) (c0 : Nat) (l0 : List Int) (w : World) (hr0 : Kd.C (Kd.int .i64) w A0 l0.length l0) (hc0 : l0.length ≤ c0) (hl : l0.length ≤ 1000000) (hck : sample_Check.f l0 = some 0) :
    Calls Try.prog 16 #[.slice A0 l0.length c0] w fun e w' => ∃ v0_ : Value, e = .returned (.tuple #[v0_, .int .i64 0]) ∧ Kd.S (Kd.slice 3 (Kd.int .i64)) 22 w' w.heap.size (fun _ => True) v0_ (cross_Pieces.pc l0) ∧ Below w.heap.size w w' := by
  have HR0 := Aside0.mk hr0
  have HC0 := Aside0.mk hc0
  have HL := Aside0.mk hl
  have HCK := Aside0.mk hck
  have HB := Aside0.mk (Below.refl w.heap.size w)
  clear hr0 hc0 hl hck
  refine (callsIn_wide (n := 3)).1 ?_
  refine callsIn_of_wp_marks Try.func16 rfl trivial ?_ rfl
  simp only [Try.ntmps16, List.size_toArray, List.length_cons, List.length_nil, Nat.reduceAdd, Nat.reduceSub, Array.replicate_succ, Array.replicate_zero, List.push_toArray, List.append_toArray, List.nil_append, List.cons_append]
  refine wpIn_wide.2 ?_
  go_wp2_with (first | (go_at_call 30; refine ((sample_Check.calls A0 c0 l0 0 w HR0.out HC0.out HCK.out)).mono ?_; rintro e w1 ⟨rfl, hb1⟩) | (go_at_call 39; refine ((callsIn_wide (n := 3)).1 (slices_Chunk.chunk_in 3 A0 l0.length c0 32 (by decide) _)).mono ?_; rintro e w' ⟨rfl, rfl⟩))
  have hbw : w.heap.size ≤ w1.heap.size := hb1.size
  have st0 : cross_Pieces.St w w1.heap.size [] (((w1.alloc (.cells #[.slice none 0 0] 34)).alloc (.cells #[.slice A0 l0.length c0] 22)).alloc (.cells #[.int .i64 32] 3)) := by
    refine ⟨((hb1.alloc hbw _).alloc (by simp; omega) _).alloc (by simp; omega) _, hbw, by simp, _, ((Boxed.new w1 34 _).alloc _).alloc _, Kd.S_nil _ _ _ _ _⟩
  have bk1 : Boxed (((w1.alloc (.cells #[.slice none 0 0] 34)).alloc (.cells #[.slice A0 l0.length c0] 22)).alloc (.cells #[.int .i64 32] 3)) (w1.heap.size + 1) 22 (.slice A0 l0.length c0) := by
    have h_ := (Boxed.new (w1.alloc (.cells #[.slice none 0 0] 34)) 22 (.slice A0 l0.length c0)).alloc (.cells #[.int .i64 32] 3)
    rwa [World.size_alloc] at h_
  have bk2 : Boxed (((w1.alloc (.cells #[.slice none 0 0] 34)).alloc (.cells #[.slice A0 l0.length c0] 22)).alloc (.cells #[.int .i64 32] 3)) (w1.heap.size + 1 + 1) 3 (.int .i64 32) := by
    have h_ := Boxed.new ((w1.alloc (.cells #[.slice none 0 0] 34)).alloc (.cells #[.slice A0 l0.length c0] 22)) 3 (.int .i64 32)
    rwa [World.size_alloc, World.size_alloc] at h_
  have hsz : (((w1.alloc (.cells #[.slice none 0 0] 34)).alloc (.cells #[.slice A0 l0.length c0] 22)).alloc (.cells #[.int .i64 32] 3)).heap.size = w1.heap.size + 3 := by simp only [World.size_alloc]
  obtain ⟨h5, e5⟩ : ∃ h5, h5 = w1.heap.size := ⟨_, rfl⟩
  rw [← e5] at st0 bk1 bk2 hsz hbw ⊢
  generalize (((w1.alloc (.cells #[.slice none 0 0] 34)).alloc (.cells #[.slice A0 l0.length c0] 22)).alloc (.cells #[.int .i64 32] 3)) = W at st0 bk1 bk2 hsz ⊢
  clear e5 hb1
  obtain ⟨ad, hA⟩ : ∃ ad, 0 < l0.length → A0 = some ad := by
    rcases Nat.eq_zero_or_pos l0.length with z | z
    · exact ⟨⟨0, 0, none⟩, fun h => absurd h (by omega)⟩
    · obtain ⟨ad, e, _⟩ := HR0.out.2.2 z
      exact ⟨ad, fun _ => e⟩
  have HA := Aside0.mk hA
  clear hA
  have STP := slices_Chunk.stops (3 - 1) (by decide) (h5 + 1) 0 c0 A0 l0.length 32 (by decide) (by decide) HL.out HC0.out ad HA.out (slices_Chunk.pv ad l0.length 32) (fun j hj => if_pos hj) W (by omega) bk1.cell bk2.cell
  refine (wpIn_wide (n := 3)).1 ?_
  refine wpIn_rangeFunc_ownG rfl (by decide) (gf := 57) (lb := #[.pointer (some ⟨h5 + 1, 0, none⟩), .pointer (some ⟨h5 + 1 + 1, 0, none⟩)]) rfl trivial (enters_of Try.func57 (by kernel_rfl) rfl) STP
    (fun h k => slices_Chunk.Kp_t h k) (fun W0 l0 o o' q1 q2 q3 q4 => slices_Chunk.Kp_b W0 l0 o o' q1 q2 q3 q4) (Below.refl _ _) (fun _ => rfl)
    (fun pre W' => cross_Pieces.St w h5 (pre.map fun j => (l0.drop (32 * j)).take 32) W')
    (fun _ _ _ => False) ?hI (fun _ _ _ _ _ hs _ _ => hs) ?h0 (fun j => { tmps := #[.slice A0 l0.length c0, undef, .slice none 0 0, .int .i64 0, .int .i64 0, .pointer (some ⟨h5, 0, none⟩), slices_Chunk.pv ad l0.length 32 j, .slice A0 l0.length c0, .int .i64 0, .int .i64 0, .bool false, undef, .slice A0 l0.length c0, .func (.func 57) #[] #[.pointer (some ⟨h5 + 1, 0, none⟩), .pointer (some ⟨h5 + 1 + 1, 0, none⟩)], slices_Chunk.pv ad l0.length 32 j, undef, undef, undef, undef, undef, undef], defers := [] }) ?assign ?body ?done ?stop
  case hI =>
    intro pre A B row hs hg hr
    refine hs.kept hg (fun r e => ?_)
    obtain ⟨q, o, ho, hc⟩ := hr r e
    exact ⟨by omega, o, ho, hc⟩
  case h0 => exact st0
  case assign =>
    intro l x W' K2 hK2
    gi_wp2
    exact hK2
  case body =>
    rintro l pre j W' hs hlen
    obtain ⟨v, hbx, hv⟩ := hs.box
    obtain ⟨B, q, d, hq, hpv, hqd, hqr, hql⟩ := cross_Pieces.piece (Kd.C_below HR0.out hs.bel) HC0.out HA.out j
    have q5 := hbx.cell
    have q5f := hbx.frozen
    simp only [hpv]
    have HS := Aside0.mk hs
    have HBX := Aside0.mk hbx
    have HV := Aside0.mk hv
    have HQ := Aside0.mk (⟨hq, hqd, hqr, hql⟩ : _ ∧ _ ∧ _ ∧ _)
    clear hs hbx hv hq hqr st0 bk1 bk2 STP hpv
    gi_wp2
    refine cross_Pieces.start_round (k := 6) (S := fun w' => w'.cell? ⟨h5, 0, none⟩ = some v) (ds := [5]) #[false, false, false, false, false, false] (by kernel_rfl) rfl rfl (by kernel_rfl) (by rintro ⟨_, _, h_⟩; exact h_) q5 (fun hHeld => ?_)
    refine take_ (i := 0) (N := some 15) (v := ?_) (a' := ?_) #[true, false, false, false, false, false] rfl rfl (by kernel_rfl) (fun _ _ _ h => h) (Or.inl ⟨by rfl, ?_⟩) hHeld ?_ ?_
    rotate_left
    · rintro w' s5
      go_simp
      with_reducible rfl
    rotate_left
    · simp only [Act.put, List.setIfInBounds_toArray, List.set_cons_zero, List.set_cons_succ, i64_w, i32_w]
      rfl
    refine pure_ (i := 1) (N := some 16) (v := ?_) (a' := ?_) #[true, true, false, false, false, false] rfl rfl (by kernel_rfl) (fun _ _ _ h => h) (Or.inl ⟨by rfl, ?_⟩) ?_ ?_
    rotate_left
    · intro w'
      go_simp
      with_reducible rfl
    rotate_left
    · simp only [Act.put, List.setIfInBounds_toArray, List.set_cons_zero, List.set_cons_succ, i64_w, i32_w]
      rfl
    refine one_ (i := 2) (N := some 17) #[true, true, true, false, false, false] rfl rfl (by kernel_rfl) (by decide) (fun K hK => ?_)
    refine goes_ Try.func40 (by kernel_rfl) rfl #[.slice B q.length d] (by rfl) rfl rfl (by (try simp only [List.map_toArray, List.map_cons, List.map_nil]); first | done | rfl) ?_
    refine (slices_Clone_int_int.calls B d q q W'.drew (Kd.C_drew HQ.out.2.2.1) hqd (cross_Pieces.clone_f (Nat.le_trans hql HL.out))).mono ?_
    rintro e w2 ⟨v1, rfl, ho, hb⟩
    obtain ⟨A1, n1, e1⟩ := Kd.R_slice ho
    subst e1
    refine ⟨_, rfl, ?_⟩
    have hsz2 : W'.heap.size ≤ w2.heap.size := hb.size
    refine hK.out _ _ ((hb.cell (World.block_lt_of_cell? _ _ hHeld)).trans hHeld) (fun hHeld => ?_)
    clear hK K
    refine norm_ (a' := ?_) ?_ ?_
    rotate_left
    · show Act.put _ (some 17) _ = _
      simp only [Act.put, List.setIfInBounds_toArray, List.set_cons_zero, List.set_cons_succ, i64_w, i32_w]
      rfl
    refine one_ (i := 3) (N := some 18) #[true, true, true, true, false, false] rfl rfl (by kernel_rfl) (by decide) (fun K hK => ?_)
    refine value_ (w1 := ?_) (v := ?_) (by rfl) rfl ?_ ?_
    rotate_left 2
    · go_simp
      constructor
      · rfl
      · rfl
    refine hK.out _ _ ((World.cell?_alloc_lt _ _ _ (World.block_lt_of_cell? _ _ hHeld)).trans hHeld) (fun hHeld => ?_)
    clear hK K
    refine norm_ (a' := ?_) ?_ ?_
    rotate_left
    · show Act.put _ (some 18) _ = _
      simp only [Act.put, List.setIfInBounds_toArray, List.set_cons_zero, List.set_cons_succ, i64_w, i32_w]
      rfl
    have hv2 := Kd.S_elder' (Kd.S_drew HV.out) (Kd.R_base ho) hb
    have hbx2 : Boxed w2 h5 34 v := (hb.block h5 HBX.out.lt).trans HBX.out
    have hne2 : some h5 ≠ v.ownBlock := Kd.S_ne hv2 hbx2 (by decide)
    have hbel2 : Below w.heap.size w w2 := (below_drew HS.out.bel).trans (hb.mono HS.out.bel.size)
    refine one_ (i := 4) (N := some 19) #[true, true, true, true, true, false] rfl rfl (by kernel_rfl) (by decide) (fun K hK => ?_)
    refine Kd.S_append_step (Kd.slice 3 (Kd.int .i64)) (w0 := w) w.heap.size (by rfl) (.tmp 15) (.tmp 18) 34 22 (.slice none 0 0) 24 rfl Try.underlying34 info22 rfl (by decide) (by omega) v (pre.map fun j => (l0.drop (32 * j)).take 32) q [.slice A1 q.length n1] (fun k => k ≠ h5 + 1 ∧ k ≠ h5 + 1 + 1) (fun k_ => some k_ = (Value.slice A1 q.length n1).ownBlock) rfl rfl ?aP ?aK ?aF ?aO hbel2 hbel2.size ?aL ?_
    case aP => exact Kd.M_row (Kd.R_tight rfl (Kd.R_lower ho HS.out.bel.size))
    case aK => exact fun k hk => ⟨by have := Kd.R_base ho k hk.symm; have := HS.out.siz; have : W'.heap.size ≤ k := Kd.R_base ho k hk.symm; omega, fun e => absurd (Kd.S_lt HV.out k e.symm) (Nat.not_lt.2 (Kd.R_base ho k hk.symm))⟩
    case aF => exact fun k hk => by have := HS.out.siz; omega
    case aO => exact Kd.S_mono hv2 (fun k hk => hk)
    case aL =>
      rw [List.length_map]
      have := HL.out
      unfold slices_Chunk.cnt at hlen
      omega
    intro v3 w3 ho3 hb3 hg3 hat3
    obtain ⟨A3, n3, e3⟩ := Kd.S_slice ho3
    rw [show ((pre.map fun j => (l0.drop (32 * j)).take 32) ++ [q]).length = pre.length + 1 by simp] at e3
    subst e3
    have hbx3 : Boxed w3 h5 34 v := hbx2.kept hg3 hne2
    refine hK.out _ _ hbx3.cell (fun hHeld => ?_)
    clear hK K
    refine norm_ (a' := ?_) ?_ ?_
    rotate_left
    · show Act.put _ (some 19) _ = _
      simp only [Act.put, List.setIfInBounds_toArray, List.set_cons_zero, List.set_cons_succ, i64_w, i32_w]
      rfl
    have hf3 := hbx3.frozen
    refine last_ (i := 5) (N := none) #[true, true, true, true, true, true] rfl rfl (by kernel_rfl) (by decide) (fun K hK => ?_)
    refine skip_ (w1 := ?_) (by rfl) rfl ?_ ?_
    rotate_left
    · go_simp
      rfl
    refine hK.out _ _ ?_
    clear hK K
    refine done_ (by kernel_rfl) ?_
    change _ ∧ _ ∧ _
    have hk23 : KeepsOthers w2 w3 := KeepsOthers.of_grownBy hg3 (fun r o e h => by
      obtain ⟨cells, hc⟩ := Kd.S_typed hv2 r e
      rw [hc] at h
      obtain rfl := Option.some.inj h
      rfl)
    have hk12 : KeepsOthers W'.drew w2 := ⟨hb.size, fun k o hk _ => (hb.block k (Array.getElem?_eq_some_iff.1 hk).1).trans hk⟩
    refine ⟨(((KeepsOthers.drew W').trans (hk12.trans hk23)).trans (KeepsOthers.setCell _ _ _)).from _, ?_, ?_⟩
    · intro y u hy hu
      have hyb : y.block ≠ h5 ∧ some y.block ≠ v.ownBlock := by
        rcases hy with rfl | rfl | hy
        · exact ⟨by show h5 + 1 ≠ h5; omega, Kd.S_away HV.out (fun k hk => hk.1)⟩
        · exact ⟨by show h5 + 1 + 1 ≠ h5; omega, Kd.S_away HV.out (fun k hk => hk.2)⟩
        · omega
      have hylt : y.block < W'.drew.heap.size := World.block_lt_of_cell? W' _ hu
      refine (World.cell?_setCell_far _ _ _ _ (fun e => hyb.1 e.symm)).trans ?_
      have h1 := hg3.block y.block (Nat.lt_of_lt_of_le hylt hb.size) hyb.2
      have h2 : w3.cell? y = w2.cell? y := by unfold World.cell?; rw [h1]
      exact h2.trans ((hb.cell hylt).trans hu)
    · show cross_Pieces.St _ _ (List.map _ (pre ++ [j])) _
      rw [List.map_append, List.map_cons, List.map_nil, ← HQ.out.1]
      refine ⟨below_set hb3 HS.out.pos, HS.out.pos, ?_, _, hbx3.set _, Kd.S_set ho3 hbx3 (by decide) 0 _⟩
      have h1 := hg3.size
      have h2 := HS.out.siz
      show _ ≤ (w3.setCell _ _).heap.size
      rw [World.size_setCell]
      omega
  case done =>
    rintro D ys W' hD rfl hs hdef
    obtain ⟨v, hbx, hv⟩ := hs.box
    have q5 := hbx.cell
    have HS := Aside0.mk hs
    have HDEF := Aside0.mk hdef
    clear hs hdef st0 bk1 bk2 STP
    go_wp2
    refine ⟨by simp, .inl ⟨_, _, rfl, run_takeDeferred HDEF.out, ?_⟩⟩
    have hs2 := HS.out.kept (grownBy_putObj' W' D (.deferred none)) (fun r e => by cases e; exact ⟨by omega, _, HDEF.out, rfl⟩)
    have hv2 := Kd.S_grown (Kd.S_bound hv) (grownBy_putObj' W' D (.deferred none)) (fun k hk e => by
      obtain ⟨_, _, _, q, _, cells, hc⟩ := hk
      obtain rfl := Option.some.inj e
      rw [HDEF.out] at hc
      cases hc)
    exact ⟨_, results_tmp2 rfl _ _ _, _, rfl, Kd.S_mono hv2 (fun _ _ => trivial), hs2.bel⟩
  case stop =>
    intro D c pre W' _ _ h _
    exact h.elim
end
set_option maxHeartbeats 8000000 in
set_option maxRecDepth 100000 in
theorem cross_Pieces.calls (A0 : Option Addr) (c0 : Nat) (l0 : List Int) (r1 : List (List Int)) (r2 : Int) (w : World) (hr0 : Kd.C (Kd.int .i64) w A0 l0.length l0) (hc0 : l0.length ≤ c0) (h : cross_Pieces.f l0 = some (r1, r2)) :
    Calls Try.prog 16 #[.slice A0 l0.length c0] w fun e w' => ∃ v0_ : Value, e = .returned (.tuple #[v0_, .int .i64 r2]) ∧ Kd.S (Kd.slice 3 (Kd.int .i64)) 22 w' w.heap.size (fun _ => True) v0_ r1 ∧ Below w.heap.size w w' := by
  obtain ⟨t, ht, H⟩ := Option.bind_eq_some_iff.mp h
  by_cases c : t = 0
  · subst c
    rw [if_pos rfl] at H
    by_cases hl : l0.length ≤ 1000000
    · rw [if_pos hl] at H
      simp only [Option.some.injEq, Prod.mk.injEq] at H
      obtain ⟨rfl, rfl⟩ := H
      exact cross_Pieces.walk A0 c0 l0 w hr0 hc0 hl ht
    · rw [if_neg hl] at H
      cases H
  · rw [if_neg c] at H
    simp only [Option.some.injEq, Prod.mk.injEq] at H
    obtain ⟨rfl, rfl⟩ := H
    have c4b0 : (t == 0) = false := beq_eq_false_iff_ne.mpr c
    have c4b1 : (t != 0) = true := bne_iff_ne.mpr c
    clear h
    go_enter Try.func16, Try.ntmps16
    go_wp2_with (go_at_call 30; refine (sample_Check.calls A0 c0 l0 t w hr0 hc0 ht).mono ?_; rintro e w1 ⟨rfl, hb1⟩)
    go_ret2
    exact ⟨_, rfl, Kd.S_nil _ _ _ _ _, hb1⟩

end Go.Proofs.Ytbopgopggnagpaa.PAll
