-- Written by a program of this session, after the kit's print
import Derived.Test.YtbopgopggnagpaaPAllx0
namespace Go.Proofs.Ytbopgopggnagpaa.PAll
open Go.RowKit Go.Proofs.YtbopgopggnagpaaW.PrintWords Go.Proofs.YtbopgopggnagpaaW.PrintLast Go.Proofs.YtbopgopggnagpaaW.PrintMore
attribute [local go_sem] max2_int min2_int max_two min_two max_three min_three max_four min_four   -- for this text's walks alone
set_option linter.unusedVariables false
set_option linter.unusedSimpArgs false

/-! ### fourier_transform: function 67 -/
section
open Go.Shelf
attribute [local go_sem] Oper.semAt_some
/-- What has come of a list when k rounds of slices.Backward are over. -/
def fourier_transform.bk (zs : List Int) (k : Nat) : List (Int × Int) := (List.range k).map fun j => (((zs.length - 1 - j : Nat) : Int), rd zs ((zs.length - 1 - j : Nat) : Int))
theorem fourier_transform.bk_succ (zs : List Int) (k : Nat) : fourier_transform.bk zs (k + 1) = fourier_transform.bk zs k ++ [(((zs.length - 1 - k : Nat) : Int), rd zs ((zs.length - 1 - k : Nat) : Int))] := by simp [fourier_transform.bk, List.range_succ]
theorem fourier_transform.bk_length (zs : List Int) (k : Nat) : (fourier_transform.bk zs k).length = k := by simp [fourier_transform.bk]
theorem fourier_transform.add_block (a : Addr) (j : Nat) : (a.add j).block = a.block := by
  unfold Addr.add
  split <;> rfl
/-- What a round must keep: the box of the list and the cells below n₀. -/
def fourier_transform.Kp (Bs n₀ : Nat) (W W' : World) : Prop := ∀ x v, (x = ⟨Bs, 0, none⟩ ∨ x.block < n₀) → W.cell? x = some v → W'.cell? x = some v
theorem fourier_transform.Kp_t {Bs n₀ : Nat} {A B C : World} (h : fourier_transform.Kp Bs n₀ A B) (k : fourier_transform.Kp Bs n₀ B C) : fourier_transform.Kp Bs n₀ A C := fun x v hx hv => k x v hx (h x v hx hv)
theorem fourier_transform.Kp_b {Bs n₀ : Nat} {w : World} (W : World) (l : Nat) (o o' : Obj) (_ : w.heap.size ≤ l) (h : W.heap[l]? = some o) (ho : o.isCells = false) (_ : o.isWalk = false) : fourier_transform.Kp Bs n₀ W (W.putObj l o') :=
  fun x v _ hv => cell_kept hv (grownBy_putObj' W l o') (fun r e => by cases e; exact ⟨o, h, ho⟩)
set_option maxRecDepth 100000 in
set_option maxHeartbeats 4000000 in
theorem fourier_transform.back1_in (F : Fence) (n : Nat) (h58 : F.fn 81) (hro : F.round = none) (hn : 1 ≤ n) (l Bs n₀ cap : Nat) (ad : Addr) (zs : List Int) (hl : zs.length ≤ 1000000) (hb : ad.block < n₀) (J Jx : List (Int × Int) → World → Prop)
    (hY : ∀ pre x W, J pre W → pre.length < zs.length → YieldAt F (n - 1) Try.prog l #[.int .i64 x.1, .int .i64 x.2] W fun e W' =>
      (e = .returned (.bool true) ∧ J (pre ++ [x]) W' ∧ fourier_transform.Kp Bs n₀ W W') ∨ (e = .returned (.bool false) ∧ Jx (pre ++ [x]) W'))
    (W : World) (hBs : W.cell? ⟨Bs, 0, none⟩ = some (.slice (some ad) zs.length cap)) (hc : ∀ j, j < zs.length → W.cell? (ad.add j) = some (.int .i64 (rd zs (j : Int)))) (h0 : J [] W) :
    CallsIn F n Try.prog 81 #[.func (.yield l) #[] #[], .pointer (some ⟨Bs, 0, none⟩)] W fun e W' => (∃ v, e = .returned v) ∧
      ((∃ ys, ys = fourier_transform.bk zs zs.length ∧ J ys W') ∨ (∃ pre, (∃ k, k ≤ zs.length ∧ pre = fourier_transform.bk zs k) ∧ Jx pre W')) := by
  have hw0 : IntKind.i64.wrap ((zs.length : Int) - 1) = (zs.length : Int) - 1 := IntWalk.i64_in _ (by omega)
  refine callsIn_of_wp Try.func81 rfl h58 ?_ hro
  simp only [Try.ntmps81, List.size_toArray, List.length_cons, List.length_nil, Nat.reduceAdd, Nat.reduceSub, Array.replicate_succ, Array.replicate_zero, List.push_toArray, List.append_toArray, List.nil_append, List.cons_append]
  gi_wp2
  gi_loopw [3] (fun i wr => ∃ r k : Nat, r + k = zs.length ∧ i = .int .i64 ((r : Int) - 1) ∧ J (fourier_transform.bk zs k) wr ∧ wr.cell? ⟨Bs, 0, none⟩ = some (.slice (some ad) zs.length cap) ∧ (∀ j, j < zs.length → wr.cell? (ad.add j) = some (.int .i64 (rd zs (j : Int)))))
    (fun i _ => (intOf i + 1).toNat)
  case atStart => exact ⟨zs.length, 0, by omega, rfl, h0, hBs, hc⟩
  case round =>
    obtain ⟨r, k, hrk, rfl, hJs, hBs', hc'⟩ := hrel
    clear hw0
    cases r with
    | zero =>
      rw [show ((0 : Nat) : Int) - 1 = -1 from rfl]
      gi_wp2
      go_end0
      exact ⟨⟨_, rfl⟩, .inl ⟨_, rfl, by rw [show zs.length = k by omega]; exact hJs⟩⟩
    | succ r =>
      rw [show ((r + 1 : Nat) : Int) - 1 = (r : Int) by omega]
      have hk : zs.length - 1 - k = r := by omega
      have hr : r < zs.length := by omega
      have hr' : (r : Int) < (zs.length : Int) := by omega
      have hcx := hc' r hr
      have hw1 : IntKind.i64.wrap ((r : Int) - 1) = (r : Int) - 1 := IntWalk.i64_in _ (by omega)
      obtain ⟨fn, tmps, assign, body, hy, hR⟩ := hY _ ((r : Int), rd zs (r : Int)) wr hJs (by rw [fourier_transform.bk_length]; omega)
      dsimp only at hy
      gi_wp2
      refine hR.mono ?_
      rintro e W3 (⟨rfl, hJ3, hk3⟩ | ⟨rfl, hJx3⟩)
      · have q1 := hk3 _ _ (.inl rfl) hBs'
        have q2 : ∀ j, j < zs.length → W3.cell? (ad.add j) = some (.int .i64 (rd zs (j : Int))) := fun j hj => hk3 _ _ (.inr (by rw [fourier_transform.add_block]; exact hb)) (hc' j hj)
        gi_wp2
        go_roundw
        case rel => exact ⟨r, k + 1, by omega, rfl, by rw [fourier_transform.bk_succ, hk]; exact hJ3, q1, q2⟩
        case measure => simp [intOf]
      · gi_wp2
        refine bodyPost_ret (results_none rfl _ _ _) rfl ?_
        exact ⟨⟨_, rfl⟩, .inr ⟨_, ⟨k + 1, by omega, by rw [fourier_transform.bk_succ, hk]⟩, hJx3⟩⟩
set_option maxHeartbeats 1000000 in
theorem fourier_transform.back_in (F : Fence) (n : Nat) (h47 : F.fn 75) (hro : F.round = none) (a : Option Addr) (len cap : Nat) (w : World) :
    CallsIn F n Try.prog 75 #[.slice a len cap] w fun e w' => e = .returned (.func (.func 81) #[] #[.pointer (some ⟨w.heap.size, 0, none⟩)]) ∧ w' = w.alloc (.cells #[.slice a len cap] 23) := by
  refine callsIn_of_wp Try.func75 rfl h47 ?_ hro
  simp only [Try.ntmps75, List.size_toArray, List.length_cons, List.length_nil, Nat.reduceAdd, Nat.reduceSub, Array.replicate_succ, Array.replicate_zero, List.push_toArray, List.append_toArray, List.nil_append, List.cons_append]
  gi_wp2
  go_ret
  exact ⟨rfl, rfl⟩
theorem fourier_transform.back_stops (F : Fence) (n : Nat) (h58 : F.fn 81) (hro : F.round = none) (hn : 1 ≤ n) (Bs n₀ cap : Nat) (ad : Addr) (zs : List Int) (hl : zs.length ≤ 1000000) (hb : ad.block < n₀) (w : World) (hBw : Bs < w.heap.size) (hn₀ : n₀ ≤ w.heap.size)
    (hBs : w.cell? ⟨Bs, 0, none⟩ = some (.slice (some ad) zs.length cap)) (hc : ∀ j, j < zs.length → w.cell? (ad.add j) = some (.int .i64 (rd zs (j : Int)))) :
    SeqStopsK F n Try.prog 81 #[.pointer (some ⟨Bs, 0, none⟩)] (fun x : Int × Int => #[Value.int .i64 x.1, Value.int .i64 x.2]) (fourier_transform.Kp Bs n₀) (fun ys => ys = fourier_transform.bk zs zs.length)
      (fun pre => ∃ k, k ≤ zs.length ∧ pre = fourier_transform.bk zs k) zs.length w := fun l J Jx W hW _ _ hY h0 =>
  fourier_transform.back1_in F n h58 hro hn l Bs n₀ cap ad zs hl hb J Jx hY W ((hW.cell (p := ⟨Bs, 0, none⟩) hBw).trans hBs) (fun j hj => (hW.cell (p := ad.add j) (Nat.lt_of_lt_of_le (by rw [fourier_transform.add_block]; exact hb) hn₀)).trans (hc j hj)) h0
/-- The powers of w, as the loop makes them. -/
def fourier_transform.ats (p w : Int) : Nat → Int
  | 0 => 1
  | k + 1 => Int.tmod (wrap64 (fourier_transform.ats p w k * w)) p
def fourier_transform.xk (p w : Int) (b : List Int) (k : Nat) : Int := Int.tmod (wrap64 (fourier_transform.ats p w k * rd b k)) p
def fourier_transform.lo (p w : Int) (a b : List Int) (k : Nat) : Int := Int.tmod (wrap64 (rd a k + fourier_transform.xk p w b k)) p
def fourier_transform.hi (p w : Int) (a b : List Int) (k : Nat) : Int := Int.tmod (wrap64 (wrap64 (rd a k - fourier_transform.xk p w b k) + p)) p
/-- The list after j rounds. -/
def fourier_transform.out (p w : Int) (a b : List Int) (m : Nat) : Nat → List Int
  | 0 => List.replicate (2 * m) 0
  | j + 1 => ((fourier_transform.out p w a b m j).set j (fourier_transform.lo p w a b j)).set (j + m) (fourier_transform.hi p w a b j)
theorem fourier_transform.out_length (p w : Int) (a b : List Int) (m : Nat) : ∀ j, (fourier_transform.out p w a b m j).length = 2 * m
  | 0 => by simp [fourier_transform.out]
  | j + 1 => by rw [fourier_transform.out, List.length_set, List.length_set]; exact fourier_transform.out_length p w a b m j
def fourier_transform.spine : Nat → Code → Code
  | n + 1, .seq _ b => fourier_transform.spine n b
  | _, c => c
noncomputable def fourier_transform.body : Code := Try.f67.body.getD .skip
def fourier_transform.fin (l3 : List Int) (n w : Int) (a b : List Int) : Option (List Int) := if a.length = b.length ∧ n = 2 * (a.length : Int) ∧ 1 ≤ a.length ∧ 2 * a.length ≤ 1000000 then some (fourier_transform.out (rd l3 0) w a b a.length a.length) else none
/-- The sum that Horner's rule makes, from the last element on. -/
def fourier_transform.horn (p t : Int) : List Int → Int
  | [] => 0
  | x :: l => Int.tmod (wrap64 (wrap64 (fourier_transform.horn p t l * t) + x)) p
def fourier_transform.oddf (p w : Int) (l : List Int) : List Int := (List.range l.length).map fun k => fourier_transform.horn p (fourier_transform.ats p w k) l

/-! ### the odd way -/
def fourier_transform.hf (p t : Int) (pre : List (Int × Int)) : Int := pre.foldl (fun s x => Int.tmod (wrap64 (wrap64 (s * t) + x.2)) p) 0
theorem fourier_transform.hf_snoc (p t : Int) (pre : List (Int × Int)) (x : Int × Int) : fourier_transform.hf p t (pre ++ [x]) = Int.tmod (wrap64 (wrap64 (fourier_transform.hf p t pre * t) + x.2)) p := by simp [fourier_transform.hf]
theorem fourier_transform.bk_snd (zs : List Int) : (fourier_transform.bk zs zs.length).map Prod.snd = zs.reverse := by
  apply List.ext_getElem
  · simp [fourier_transform.bk]
  · intro i h1 h2
    have hi : i < zs.length := by simpa using h2
    simp [fourier_transform.bk, rd]
    rw [List.getElem?_eq_getElem (by omega)]
    simp
theorem fourier_transform.horn_foldr (p t : Int) : ∀ zs : List Int, fourier_transform.horn p t zs = zs.foldr (fun x s => Int.tmod (wrap64 (wrap64 (s * t) + x)) p) 0
  | [] => rfl
  | x :: l => by rw [fourier_transform.horn, fourier_transform.horn_foldr p t l]; rfl
theorem fourier_transform.hf_all (p t : Int) (zs : List Int) : fourier_transform.hf p t (fourier_transform.bk zs zs.length) = fourier_transform.horn p t zs := by
  rw [fourier_transform.horn_foldr, ← List.foldl_reverse, ← fourier_transform.bk_snd, List.foldl_map]
  rfl
/-- The list after j rounds. -/
def fourier_transform.oo (p w : Int) (l : List Int) : Nat → List Int
  | 0 => List.replicate l.length 0
  | j + 1 => (fourier_transform.oo p w l j).set j (fourier_transform.horn p (fourier_transform.ats p w j) l)
theorem fourier_transform.oo_length (p w : Int) (l : List Int) : ∀ j, (fourier_transform.oo p w l j).length = l.length
  | 0 => by simp [fourier_transform.oo]
  | j + 1 => by rw [fourier_transform.oo, List.length_set]; exact fourier_transform.oo_length p w l j
theorem fourier_transform.oo_get (p w : Int) (l : List Int) : ∀ j i, i < l.length → (fourier_transform.oo p w l j)[i]? = some (if i < j then fourier_transform.horn p (fourier_transform.ats p w i) l else 0)
  | 0, i, hi => by simp [fourier_transform.oo, hi]
  | j + 1, i, hi => by
    rw [fourier_transform.oo, List.getElem?_set]
    by_cases h : j = i
    · subst h
      simp [fourier_transform.oo_length, hi]
    · rw [if_neg h, fourier_transform.oo_get p w l j i hi]
      congr 1
      by_cases h2 : i < j
      · rw [if_pos h2, if_pos (by omega)]
      · rw [if_neg h2, if_neg (by omega)]
theorem fourier_transform.oo_all (p w : Int) (l : List Int) : fourier_transform.oo p w l l.length = fourier_transform.oddf p w l := by
  apply List.ext_getElem?
  intro i
  by_cases hi : i < l.length
  · rw [fourier_transform.oo_get p w l _ i hi, if_pos hi]
    simp [fourier_transform.oddf, hi]
  · rw [List.getElem?_eq_none (by rw [fourier_transform.oo_length]; omega), List.getElem?_eq_none (by simp [fourier_transform.oddf]; omega)]
/-- What stands between two rounds. -/
structure fourier_transform.St (w0 : World) (h3 h8 h9 g cap : Nat) (a0 : Int) (N : Nat) (at_ : Int) (xs : List Int) (Ds : List Nat) (W : World) : Prop where
  bel : Below w0.heap.size w0 W
  b3 : Boxed W h3 2 (.int .i64 a0)
  b8 : Boxed W h8 23 (.slice (some ⟨g, 0, none⟩) N cap)
  b9 : Boxed W h9 2 (.int .i64 at_)
  row : Kd.R (Kd.int .i64) 2 W w0.heap.size (fun _ => True) (.slice (some ⟨g, 0, none⟩) N cap) xs
  ds : ∀ D ∈ Ds, w0.heap.size ≤ D ∧ W.heap[D]? = some (.deferred (some []))
theorem fourier_transform.R_blk {W : World} {base g N cap : Nat} {xs : List Int} (h : Kd.R (Kd.int .i64) 2 W base (fun _ => True) (.slice (some ⟨g, 0, none⟩) N cap) xs) : ∃ cur : Array Value, W.heap[g]? = some (.cells cur 2) ∧ xs.length = N ∧ N ≤ cur.size := by
  obtain ⟨e, _⟩ := Kd.R_reads' h
  subst e
  rcases (Kd.own_of_R h).2 with ⟨hv1, hz1⟩ | ⟨g1, k1, cur1, hv1, hb1, hh1, hnc1, hcm1, hcs1, ht1⟩
  · simp at hv1
  · obtain ⟨rfl, _⟩ : g = g1 ∧ _ := by simpa using hv1
    exact ⟨cur1, hh1, rfl, by omega⟩
theorem fourier_transform.St.kept {w0 : World} {h3 h8 h9 g cap : Nat} {a0 : Int} {N : Nat} {at_ : Int} {xs : List Int} {Ds Es : List Nat} {W W' : World} {row : Option Nat} (s : fourier_transform.St w0 h3 h8 h9 g cap a0 N at_ xs Ds W) (hg : W.grownBy W' row)
    (hr : ∀ r, row = some r → w0.heap.size ≤ r ∧ r ∉ Es ∧ ∃ o : Obj, W.heap[r]? = some o ∧ o.isCells = false) (hE : ∀ D ∈ Es, D ∈ Ds) : fourier_transform.St w0 h3 h8 h9 g cap a0 N at_ xs Es W' := by
  have hne : ∀ {B : Nat} {t : TypeId} {v : Value}, Boxed W B t v → some B ≠ row := by
    intro B t v hb e
    obtain ⟨_, _, o, ho, hc⟩ := hr B e.symm
    rw [show W.heap[B]? = _ from hb] at ho
    obtain rfl := Option.some.inj ho
    simp [Obj.isCells] at hc
  refine ⟨s.bel.grown hg s.bel.size (fun k e => (hr k e).1), s.b3.kept hg (hne s.b3), s.b8.kept hg (hne s.b8), s.b9.kept hg (hne s.b9), ?_, fun D hD => ⟨(s.ds D (hE D hD)).1, ?_⟩⟩
  · refine Kd.R_grown1 s.row rfl hg fun e => ?_
    obtain ⟨_, _, o, ho, hc⟩ := hr g e
    obtain ⟨cur, hcur, _⟩ := fourier_transform.R_blk s.row
    rw [hcur] at ho
    obtain rfl := Option.some.inj ho
    simp [Obj.isCells] at hc
  · have h1 := (s.ds D (hE D hD)).2
    rw [hg.block D (Array.getElem?_eq_some_iff.1 h1).1 (fun e => (hr D e.symm).2.1 hD)]
    exact h1
theorem fourier_transform.St.alloc {w0 : World} {h3 h8 h9 g cap : Nat} {a0 : Int} {N : Nat} {at_ : Int} {xs : List Int} {Ds : List Nat} {W : World} (s : fourier_transform.St w0 h3 h8 h9 g cap a0 N at_ xs Ds W) (o : Obj) : fourier_transform.St w0 h3 h8 h9 g cap a0 N at_ xs Ds (W.alloc o) :=
  s.kept (World.grownBy_alloc W o none) (fun r e => by cases e) (fun _ h => h)
theorem fourier_transform.St.drew {w0 : World} {h3 h8 h9 g cap : Nat} {a0 : Int} {N : Nat} {at_ : Int} {xs : List Int} {Ds : List Nat} {W : World} (s : fourier_transform.St w0 h3 h8 h9 g cap a0 N at_ xs Ds W) : fourier_transform.St w0 h3 h8 h9 g cap a0 N at_ xs Ds W.drew :=
  ⟨below_drew s.bel, s.b3, s.b8, s.b9, Kd.R_drew s.row, s.ds⟩
theorem fourier_transform.St.put {w0 : World} {h3 h8 h9 g cap : Nat} {a0 : Int} {N : Nat} {at_ : Int} {xs : List Int} {Ds : List Nat} {W : World} (s : fourier_transform.St w0 h3 h8 h9 g cap a0 N at_ xs Ds W) (hg : w0.heap.size ≤ g) (e3 : h3 ≠ g) (e8 : h8 ≠ g) (e9 : h9 ≠ g) (j : Nat) (v : Int) :
    fourier_transform.St w0 h3 h8 h9 g cap a0 N at_ (xs.set j v) Ds (W.setCell ⟨g, j, none⟩ (.int .i64 v)) := by
  obtain ⟨cur, hcur, _⟩ := fourier_transform.R_blk s.row
  refine ⟨below_set s.bel hg, (Below.heap_setCell _ _ _ h3 e3).trans s.b3, (Below.heap_setCell _ _ _ h8 e8).trans s.b8, (Below.heap_setCell _ _ _ h9 e9).trans s.b9, Kd.R_putn s.row (j : Int) v, fun D hD => ⟨(s.ds D hD).1, ?_⟩⟩
  have h1 := (s.ds D hD).2
  refine (Below.heap_setCell _ _ _ D fun e => ?_).trans h1
  have e' : D = g := e
  subst e'
  rw [hcur] at h1
  cases h1
theorem fourier_transform.St.setAt {w0 : World} {h3 h8 h9 g cap : Nat} {a0 : Int} {N : Nat} {at_ : Int} {xs : List Int} {Ds : List Nat} {W : World} (s : fourier_transform.St w0 h3 h8 h9 g cap a0 N at_ xs Ds W) (hg : w0.heap.size ≤ h9) (e3 : h3 ≠ h9) (e8 : h8 ≠ h9) (eg : h9 ≠ g) (v : Int) :
    fourier_transform.St w0 h3 h8 h9 g cap a0 N v xs Ds (W.setCell ⟨h9, 0, none⟩ (.int .i64 v)) := by
  have h9c : W.heap[h9]? = _ := s.b9
  refine ⟨below_set s.bel hg, (Below.heap_setCell _ _ _ h3 e3).trans s.b3, (Below.heap_setCell _ _ _ h8 e8).trans s.b8, s.b9.set _, Kd.R_grown1 s.row rfl (grownBy_setCell' W h9 _) (by simpa [Value.ownBlock] using eg), fun D hD => ⟨(s.ds D hD).1, ?_⟩⟩
  have h1 := (s.ds D hD).2
  refine (Below.heap_setCell _ _ _ D fun e => ?_).trans h1
  have e' : D = h9 := e
  subst e'
  rw [h9c] at h1
  cases h1
/-- The deferred calls of the rounds: none of them has any. -/
theorem fourier_transform.leaves {w0 : World} {h3 h8 h9 g cap : Nat} {a0 : Int} {N : Nat} {at_ : Int} {xs : List Int} {F : Fence} {n : Nat} {fn : Func} {tmps : Array Value} {R : Ending → World → Prop} (hfin : ∀ W, fourier_transform.St w0 h3 h8 h9 g cap a0 N at_ xs [] W → LeavesInM F n Try.prog fn tmps R [] .returning W) :
    ∀ (Ds : List Nat) (W : World), Ds.Nodup → fourier_transform.St w0 h3 h8 h9 g cap a0 N at_ xs Ds W → LeavesInM F n Try.prog fn tmps R (Ds.map fun D => { target := .collected D, args := #[] }) .returning W
  | [], W, _, s => hfin W s
  | D :: Ds, W, hn, s => by
    have hD := s.ds D (List.mem_cons_self ..)
    refine ⟨by simp, .inl ⟨_, _, rfl, run_takeDeferred hD.2, ?_⟩⟩
    refine fourier_transform.leaves hfin Ds _ (List.nodup_cons.1 hn).2 (s.kept (grownBy_putObj' W D (.deferred none)) (fun r e => ?_) (fun E hE => List.mem_cons_of_mem _ hE))
    cases e
    exact ⟨hD.1, (List.nodup_cons.1 hn).1, _, hD.2, rfl⟩
/-! ### A region that draws its order, in a round of a range over a function: its walk outside a round serves -/
theorem fourier_transform.upon_round {l n : Nat} {P : Program} {o : Oper} {a : Act} {next : Act → World → Prop} {Q : Exit → Act → World → Prop} : ∀ {r : Result Next}, o.upon P a next Q r → o.uponIn (Fence.wide.inRound l) n P a next Q r := by
  intro r h
  match r, h with
  | .ok (.value v) w', h => exact h
  | .ok .skip w', h => exact h
  | .ok (.defer d) w', h => exact h
  | .ok (.enter f args) w', h => exact ⟨fun e => (by cases e), CallsIn.inRound l (callsIn_wide.2 h)⟩
  | .ok (.row row args) w', h => exact ⟨fun e => (by cases e), fun c cs _ => let ⟨v, w'', q, s⟩ := h c cs; ⟨v, w'', q, stepsIn_wide.2 s⟩⟩
  | .halt (.panic v) w', h => exact h
theorem fourier_transform.wpOp_round {l n i : Nat} {P : Program} {ops : Array Oper} {Q : Exit → Act → World → Prop} {K : Act → World → Prop} {a : Act} {w : World} (hnd : ∀ (j : Nat) (o : Oper), ops[j]? = some o → ∀ c, o.op ≠ .defer c) (hQ : ¬ LetsOut Q)
    (h : wpOp P ops Q i K a w) : wpOpIn (Fence.wide.inRound l) n P ops Q i K a w := by
  unfold wpOp at h
  unfold wpOpIn
  split at h
  · rename_i e
    rw [e]
    exact h
  · rename_i o e
    rw [e]
    by_cases hw : Region.wanted o (yielded ops a.tmps) = true
    · rw [if_pos hw] at h
      simp only [hw, if_true]
      rcases h with h | h
      · refine ⟨fun _ _ => trivial, ?_⟩
        rw [Oper.semAt_eq _ _ _ (hnd i o e)]
        exact fourier_transform.upon_round h
      · exact absurd h.2 hQ
    · rw [if_neg hw] at h
      simp only [hw]
      exact ⟨fun _ _ => trivial, h⟩
theorem fourier_transform.wpAny_round {l n : Nat} {P : Program} {md : Region.Mode} {ops : Array Oper} {Q : Exit → Act → World → Prop} (hnd : ∀ (j : Nat) (o : Oper), ops[j]? = some o → ∀ c, o.op ≠ .defer c) (hQ : ¬ LetsOut Q) :
    ∀ (fuel : Nat) (listed : Array Bool) (a : Act) (w : World), wpAny P md ops Q fuel listed a w → wpAnyIn (Fence.wide.inRound l) n P md ops Q fuel listed a w
  | 0, _, _, _, h => h
  | fuel + 1, listed, _, _, h => ⟨h.1, fun i hi => fourier_transform.wpOp_round hnd hQ (wpOp_mono (fun a' w' h' => fourier_transform.wpAny_round hnd hQ fuel _ a' w' h') (h.2 i hi))⟩
def fourier_transform.noDefer (o : Oper) : Bool := match o.op with | .defer _ => false | _ => true
theorem fourier_transform.start_round {l n id k : Nat} {P : Program} {ops : Array Oper} {Q : Exit → Act → World → Prop} {S : World → Prop} {ds : List Nat} {a : Act} {w : World} (lb : Array Bool) (hm : P.follows .mixedOrders = true) (hn : ops.size = k) (hl : Array.replicate k false = lb) (hnd : ops.all fourier_transform.noDefer = true) (hQ : ¬ LetsOut Q) (hS : S w.drew)
    (h : S w.drew → wpAnyLast P .any ops Q S ds k lb a w.drew) : (Code.region id ops true).wpIn (Fence.wide.inRound l) n P Q a w := by
  subst hn
  subst hl
  refine wpIn_region_any hm (fourier_transform.wpAny_round (fun j o e c hc => ?_) hQ _ _ _ _ (wpAny_of_last _ _ _ _ (h hS)))
  have h1 := Array.all_eq_true'.1 hnd o (Array.mem_of_getElem? e)
  unfold fourier_transform.noDefer at h1
  rw [hc] at h1
  cases h1
theorem fourier_transform.oo_set0 (p w : Int) (l : List Int) (j : Nat) (hj : j < l.length) : (fourier_transform.oo p w l j).set j 0 = fourier_transform.oo p w l j := by
  apply List.ext_getElem?
  intro i
  rw [List.getElem?_set]
  by_cases h : j = i
  · subst h
    rw [if_pos rfl, fourier_transform.oo_get p w l j j hj, if_neg (Nat.lt_irrefl _), if_pos (show j < (fourier_transform.oo p w l j).length by rw [fourier_transform.oo_length]; exact hj)]
  · rw [if_neg h]
theorem fourier_transform.add0 (g j : Nat) : (⟨g, 0, none⟩ : Addr).add j = ⟨g, j, none⟩ := by
  unfold Addr.add
  split
  · rename_i h
    rw [h]
  · simp
theorem fourier_transform.row_cell {W : World} {base g N cap : Nat} {xs : List Int} (h : Kd.R (Kd.int .i64) 2 W base (fun _ => True) (.slice (some ⟨g, 0, none⟩) N cap) xs) (j : Nat) (hj : j < N) : W.cell? ⟨g, j, none⟩ = some (.int .i64 (rd xs (j : Int))) ∧ W.frozen? ⟨g, j, none⟩ = false := by
  obtain ⟨cur, hcur, _, _⟩ := fourier_transform.R_blk h
  refine ⟨?_, blk_frozen hcur _⟩
  obtain ⟨e, _⟩ := Kd.R_reads' h
  subst e
  obtain ⟨ad, ea, hx⟩ := Kd.at_int (Kd.R_reads' h).2.2 (j : Int) (by omega) (by omega)
  obtain rfl := Option.some.inj ea
  rw [Int.toNat_natCast, fourier_transform.add0] at hx
  exact hx
theorem fourier_transform.rd_set (xs : List Int) (j : Nat) (v : Int) (hj : j < xs.length) : rd (xs.set j v) (j : Int) = v := by
  simp [rd, hj]
set_option maxHeartbeats 64000000 in
set_option maxRecDepth 100000 in
theorem fourier_transform.odd (a0 : Int) (a1 : Int) (A2 : Option Addr) (c2 : Nat) (l2 : List Int) (w : World) (hr2 : Kd.C (Kd.int .i64) w A2 l2.length l2) (hc2 : l2.length ≤ c2) (c5 : ((l2.length : Int) % 2) > 0) (cp : ¬ a0 = 0) (cl : l2.length ≤ 1000000) :
    Calls Try.prog 67 #[.int .i64 a0, .int .i64 a1, .slice A2 l2.length c2] w fun e w' => ∃ v0_ : Value, e = .returned (v0_) ∧ Kd.R (Kd.int .i64) 2 w' w.heap.size (fun _ => True) v0_ (fourier_transform.oddf a0 a1 l2) ∧ Below w.heap.size w w' := by
  have hpos : 0 < l2.length := by
    rcases Nat.eq_zero_or_pos l2.length with h | h
    · rw [h] at c5; simp at c5
    · exact h
  have HPOS := Aside0.mk hpos
  obtain ⟨ad, eA, _⟩ := Kd.at_int hr2 0 (by omega) (by omega)
  subst eA
  have hx : ∀ j, j < l2.length → w.cell? (ad.add j) = some (.int .i64 (rd l2 (j : Int))) := by
    intro j hj
    obtain ⟨ad', e', h'⟩ := Kd.at_int hr2 (j : Int) (by omega) (by omega)
    obtain rfl := Option.some.inj e'
    simpa using h'
  have hadb : ad.block < w.heap.size := by have h_ := World.block_lt_of_cell? w _ (hx 0 hpos); rwa [fourier_transform.add_block] at h_
  have HX := Aside0.mk hx
  have HADB := Aside0.mk hadb
  have HCP := Aside0.mk cp
  have HC2 := Aside0.mk hc2
  clear hr2 hx hadb hpos cp hc2
  have c5t : decide (0 < ((l2.length : Int) % 2)) = true := decide_eq_true c5
  refine (callsIn_wide (n := 3)).1 ?_
  refine callsIn_of_wp_marks Try.func67 rfl trivial ?_ rfl
  simp only [Try.ntmps67, List.size_toArray, List.length_cons, List.length_nil, Nat.reduceAdd, Nat.reduceSub, Array.replicate_succ, Array.replicate_zero, List.push_toArray, List.append_toArray, List.nil_append, List.cons_append]
  refine wpIn_wide.2 ?_
  have hb0 : Below w.heap.size w (w.alloc (.cells #[.int .i64 a0] 2)) := (Below.refl _ _).alloc (Nat.le_refl _) _
  have hx3 := Boxed.new w 2 (.int .i64 a0)
  go_wp2_with ((with_reducible refine gate_dst (N := 28) rfl ?_); refine Kd.R_make (Kd.int .i64) _ 2 rfl (N := 28) rfl 23 _ _ rfl (l2.length : Int) rfl rfl Try.underlying23 (.int .i64 0) 8 info2 rfl (by decide) (by omega) 0 (ok := fun _ => True) (okp := fun _ => True) rfl (fun _ hk => hk) trivial (by omega) (by omega) (Below.refl _ _) (Nat.le_refl _) ?_; intro v139 w1 ho hb_ hg_ hnew_; rw [Int.toNat_natCast] at ho; have hlt_ := Kd.R_lt ho; have hbs_ := Kd.R_base ho; have hbl_ := Kd.R_lower ho hb0.size; obtain ⟨g, cap, rfl, hg1, hg2, cells, hcells⟩ := Kd.R_form ho (by simp; omega); rw [List.length_replicate] at hbl_ hlt_ hbs_ ⊢; clear ho hnew_ hg_ hcells)
  have hB1 : Below w.heap.size w w1 := hb0.trans (hb_.mono hb0.size)
  have hg3 : w.heap.size < g := by have := hg1; simp at this; omega
  have hx3' : Boxed w1 w.heap.size 2 (.int .i64 a0) := (hb_.block w.heap.size (by simp)).trans hx3
  have st0 : fourier_transform.St w w.heap.size w1.heap.size (w1.heap.size + 1) g cap a0 l2.length 1 (List.replicate l2.length 0) [] ((w1.alloc (.cells #[.slice (some ⟨g, 0, none⟩) l2.length cap] 23)).alloc (.cells #[.int .i64 1] 2)) := by
    refine ⟨(hB1.alloc hB1.size _).alloc (by have := hB1.size; simp; omega) _, (hx3'.alloc _).alloc _, (Boxed.new w1 23 _).alloc _, ?_, Kd.R_alloc (Kd.R_alloc hbl_ _) _, fun D hD => absurd hD (by simp)⟩
    have h_ := Boxed.new (w1.alloc (.cells #[.slice (some ⟨g, 0, none⟩) l2.length cap] 23)) 2 (.int .i64 1)
    rwa [World.size_alloc] at h_
  have h38 : w.heap.size < w1.heap.size := by omega
  clear hB1 hg1 hx3' hb_ hb0 hx3 hbl_ hlt_ hbs_
  obtain ⟨h3, e3⟩ : ∃ h3, h3 = w.heap.size := ⟨_, rfl⟩
  obtain ⟨h8, e8⟩ : ∃ h8, h8 = w1.heap.size := ⟨_, rfl⟩
  obtain ⟨h9, e9⟩ : ∃ h9, h9 = h8 + 1 := ⟨_, rfl⟩
  have h89 : g < h8 ∧ w.heap.size < h8 ∧ h8 < h9 ∧ h3 = w.heap.size ∧ w.heap.size < g := ⟨by omega, by omega, by omega, e3, hg3⟩
  have H89 := Aside0.mk h89
  rw [← e8, ← e9, ← e3] at st0
  simp only [← e3, ← e8, ← e9]
  clear e3 e8 e9 hg2 hg3 h38 h89
  generalize (w1.alloc (.cells #[.slice (some ⟨g, 0, none⟩) l2.length cap] 23)).alloc (.cells #[.int .i64 1] 2) = wl at st0 ⊢
  have hpe : (a0 == 0) = false := beq_eq_false_iff_ne.mpr HCP.out
  have hp0' : ¬ a0 = 0 := HCP.out
  clear c5 c5t
  refine wp_loop_ghost_k (fun nn a W => ∃ (j : Nat) (Ds : List Nat) (u10 u32 u33 u34 u35 u51 u52 u53 u54 u55 u56 : Value), a = ⟨((.int .i64 a0) :: (.int .i64 a1) :: (.slice (some ad) l2.length c2) :: (.pointer (some ⟨h3, 0, none⟩)) :: (undef) :: (undef) :: (.slice none 0 0) :: (.int .i64 (l2.length : Int)) :: (.pointer (some ⟨h8, 0, none⟩)) :: (.pointer (some ⟨h9, 0, none⟩)) :: u10 :: (undef) :: (undef) :: (undef) :: (undef) :: (undef) :: (undef) :: (undef) :: (undef) :: (undef) :: (undef) :: (undef) :: (.slice (some ad) l2.length c2) :: (.int .i64 (l2.length : Int)) :: (.int .i64 (l2.length : Int)) :: (.int .i64 ((l2.length : Int) % 2)) :: (.bool true) :: (.int .i64 (l2.length : Int)) :: (.slice (some ⟨g, 0, none⟩) l2.length cap) :: (.slice (some ⟨g, 0, none⟩) l2.length cap) :: (.int .i64 (l2.length : Int)) :: (.int .i64 (j : Int)) :: u32 :: u33 :: u34 :: u35 :: (undef) :: (undef) :: (undef) :: (undef) :: (undef) :: (undef) :: (undef) :: (undef) :: (undef) :: (undef) :: (undef) :: (undef) :: (undef) :: (undef) :: (undef) :: u51 :: u52 :: u53 :: u54 :: u55 :: u56 :: (undef) :: (undef) :: (undef) :: (undef) :: (undef) :: (undef) :: (undef) :: (undef) :: (undef) :: (undef) :: (undef) :: (undef) :: (undef) :: (undef) :: (undef) :: (undef) :: (undef) :: (undef) :: (undef) :: (undef) :: (undef) :: (undef) :: (undef) :: (undef) :: (undef) :: (undef) :: (undef) :: (undef) :: (undef) :: (undef) :: (undef) :: (undef) :: (undef) :: (undef) :: (undef) :: (undef) :: (undef) :: (undef) :: (undef) :: (undef) :: (undef) :: (undef) :: (undef) :: (undef) :: (undef) :: (undef) :: (undef) :: (undef) :: (undef) :: (undef) :: (undef) :: (undef) :: (undef) :: (undef) :: (undef) :: (undef) :: (undef) :: (undef) :: (undef) :: (undef) :: (undef) :: (undef) :: (undef) :: (undef) :: (undef) :: (undef) :: (undef) :: (undef) :: (undef) :: (undef) :: (undef) :: (undef) :: (undef) :: (undef) :: (undef) :: (undef) :: (undef) :: (undef) :: (undef) :: (undef) :: (undef) :: (undef) :: (undef) :: (undef) :: (undef) :: (undef) :: (undef) :: (undef) :: (undef) :: (undef) :: (undef) :: (undef) :: []).toArray, Ds.map (fun D => { target := .collected D, args := #[] })⟩ ∧ nn + j = l2.length ∧ Ds.Nodup ∧ fourier_transform.St w h3 h8 h9 g cap a0 l2.length (fourier_transform.ats a0 a1 j) (fourier_transform.oo a0 a1 l2 j) Ds W) l2.length ⟨0, [], _, _, _, _, _, _, _, _, _, _, _, rfl, by omega, List.nodup_nil, st0⟩ ?_
  clear st0
  rintro nn a W ⟨j, Ds, u10, u32, u33, u34, u35, u51, u52, u53, u54, u55, u56, ha_, hj, hnd, hS⟩ J K hJ hK
  subst ha_
  by_cases hlt : j < l2.length
  · have h1' : (j : Int) < (l2.length : Int) := by omega
    have hS' := Aside0.mk hS
    have hND := Aside0.mk hnd
    clear hS hnd
    go_wp2_with (go_at_call 75; refine ((callsIn_wide (n := 3)).1 (fourier_transform.back_in Fence.wide 3 trivial rfl _ _ _ _)).mono ?_; rintro e w' ⟨rfl, rfl⟩)
    have hS := hS'.out
    have hbW : w.heap.size ≤ W.heap.size := hS.bel.size
    have h9W : h9 < W.heap.size := hS.b9.lt
    have hDs : ∀ D ∈ Ds, D < W.heap.size := fun D hD => (Array.getElem?_eq_some_iff.1 (hS.ds D hD).2).1
    have bk1 := Boxed.new W 3 (.int .i64 (j : Int))
    have bk2 := Boxed.new (W.alloc (.cells #[.int .i64 (j : Int)] 3)) 23 (.slice (some ad) l2.length c2)
    rw [World.size_alloc] at bk2
    have hB2 : Below w.heap.size w ((W.alloc (.cells #[.int .i64 (j : Int)] 3)).alloc (.cells #[.slice (some ad) l2.length c2] 23)) := ((hS.alloc _).alloc _).bel
    have hln : j < (fourier_transform.oo a0 a1 l2 j).length := by rw [fourier_transform.oo_length]; exact hlt
    refine (wpIn_wide (n := 3)).1 ?_
    refine wpIn_rangeFunc_ownG rfl (by decide) (gf := 81) (lb := #[.pointer (some ⟨W.heap.size + 1, 0, none⟩)]) rfl trivial (enters_of Try.func81 (by kernel_rfl) rfl)
      (fourier_transform.back_stops Fence.wide (3 - 1) trivial rfl (by decide) (W.heap.size + 1) w.heap.size c2 ad l2 cl HADB.out _ (by simp) (by simp; omega) bk2.cell (fun j' hj' => (hB2.cell (p := ad.add j') (by rw [fourier_transform.add_block]; exact HADB.out)).trans (HX.out j' hj')))
      (fun h k => fourier_transform.Kp_t h k) (fun W0 l0 o o' q1 q2 q3 q4 => fourier_transform.Kp_b W0 l0 o o' q1 q2 q3 q4) (Below.refl _ _) (fun _ => rfl)
      (fun pre W' => fourier_transform.St w h3 h8 h9 g cap a0 l2.length (fourier_transform.ats a0 a1 j) ((fourier_transform.oo a0 a1 l2 j).set j (fourier_transform.hf a0 (fourier_transform.ats a0 a1 j) pre)) Ds W' ∧ Boxed W' W.heap.size 3 (.int .i64 (j : Int)))
      (fun _ _ _ => False) ?hI (fun _ _ _ _ _ hs _ _ => hs) ?h0 (fun x => { tmps := ((.int .i64 a0) :: (.int .i64 a1) :: (.slice (some ad) l2.length c2) :: (.pointer (some ⟨h3, 0, none⟩)) :: (undef) :: (undef) :: (.slice none 0 0) :: (.int .i64 (l2.length : Int)) :: (.pointer (some ⟨h8, 0, none⟩)) :: (.pointer (some ⟨h9, 0, none⟩)) :: (.pointer (some ⟨W.heap.size, 0, none⟩)) :: (undef) :: (.int .i64 x.2) :: (undef) :: (undef) :: (undef) :: (undef) :: (undef) :: (undef) :: (undef) :: (undef) :: (undef) :: (.slice (some ad) l2.length c2) :: (.int .i64 (l2.length : Int)) :: (.int .i64 (l2.length : Int)) :: (.int .i64 ((l2.length : Int) % 2)) :: (.bool true) :: (.int .i64 (l2.length : Int)) :: (.slice (some ⟨g, 0, none⟩) l2.length cap) :: (.slice (some ⟨g, 0, none⟩) l2.length cap) :: (.int .i64 (l2.length : Int)) :: (.int .i64 (j : Int)) :: (.bool true) :: (.int .i64 (j : Int)) :: (.slice (some ad) l2.length c2) :: (.func (.func 81) #[] #[.pointer (some ⟨W.heap.size + 1, 0, none⟩)]) :: (.int .i64 x.1) :: (.int .i64 x.2) :: (undef) :: (undef) :: (undef) :: (undef) :: (undef) :: (undef) :: (undef) :: (undef) :: (undef) :: (undef) :: (undef) :: (undef) :: (undef) :: u51 :: u52 :: u53 :: u54 :: u55 :: u56 :: (undef) :: (undef) :: (undef) :: (undef) :: (undef) :: (undef) :: (undef) :: (undef) :: (undef) :: (undef) :: (undef) :: (undef) :: (undef) :: (undef) :: (undef) :: (undef) :: (undef) :: (undef) :: (undef) :: (undef) :: (undef) :: (undef) :: (undef) :: (undef) :: (undef) :: (undef) :: (undef) :: (undef) :: (undef) :: (undef) :: (undef) :: (undef) :: (undef) :: (undef) :: (undef) :: (undef) :: (undef) :: (undef) :: (undef) :: (undef) :: (undef) :: (undef) :: (undef) :: (undef) :: (undef) :: (undef) :: (undef) :: (undef) :: (undef) :: (undef) :: (undef) :: (undef) :: (undef) :: (undef) :: (undef) :: (undef) :: (undef) :: (undef) :: (undef) :: (undef) :: (undef) :: (undef) :: (undef) :: (undef) :: (undef) :: (undef) :: (undef) :: (undef) :: (undef) :: (undef) :: (undef) :: (undef) :: (undef) :: (undef) :: (undef) :: (undef) :: (undef) :: (undef) :: (undef) :: (undef) :: (undef) :: (undef) :: (undef) :: (undef) :: (undef) :: (undef) :: (undef) :: (undef) :: (undef) :: (undef) :: (undef) :: (undef) :: []).toArray, defers := [] }) ?assign ?body ?done ?stop
    case hI =>
      intro pre A B row hs hg hr
      refine ⟨hs.1.kept hg (fun r e => ?_) (fun _ h => h), hs.2.kept hg (fun e => ?_)⟩
      · obtain ⟨q, o, ho, hc⟩ := hr r e
        rw [World.size_alloc, World.size_alloc] at q
        exact ⟨by omega, fun hm => by have := hDs r hm; omega, o, ho, hc⟩
      · obtain ⟨q, o, ho, hc⟩ := hr W.heap.size e.symm
        rw [World.size_alloc, World.size_alloc] at q
        omega
    case h0 =>
      refine ⟨?_, bk1.alloc _⟩
      rw [show fourier_transform.hf a0 (fourier_transform.ats a0 a1 j) [] = 0 from rfl, fourier_transform.oo_set0 _ _ _ _ hlt]
      exact (hS.alloc _).alloc _
    case assign =>
      intro l x W' K2 hK2
      gi_wp2
      exact hK2
    case body =>
      rintro l pre x W' ⟨hs, hkb⟩ hlen
      have q3 := hs.b3.cell
      have q8 := hs.b8.cell
      have q9 := hs.b9.cell
      have qk := hkb.cell
      obtain ⟨qr, qf⟩ := fourier_transform.row_cell hs.row j hlt
      rw [fourier_transform.rd_set _ _ _ hln] at qr
      have HS := Aside0.mk hs
      have HKB := Aside0.mk hkb
      clear hs hkb bk1 bk2 hB2 hDs hS
      gi_wp2
      refine fourier_transform.start_round (k := 14) (S := fun w' => w'.cell? ⟨h3, 0, none⟩ = some (.int .i64 a0) ∧ w'.cell? ⟨h8, 0, none⟩ = some (.slice (some ⟨g, 0, none⟩) l2.length cap) ∧ w'.cell? ⟨h9, 0, none⟩ = some (.int .i64 (fourier_transform.ats a0 a1 j)) ∧ w'.cell? ⟨W.heap.size, 0, none⟩ = some (.int .i64 (j : Int)) ∧ w'.cell? ⟨g, j, none⟩ = some (.int .i64 (fourier_transform.hf a0 (fourier_transform.ats a0 a1 j) pre))) (ds := [13]) #[false, false, false, false, false, false, false, false, false, false, false, false, false, false] (by kernel_rfl) rfl rfl (by kernel_rfl) (by rintro ⟨_, _, h_⟩; exact h_) ⟨q3, q8, q9, qk, qr⟩ (fun hHeld => ?_)
      refine take_ (i := 0) (N := some 38) (v := ?_) (a' := ?_) #[true, false, false, false, false, false, false, false, false, false, false, false, false, false] rfl rfl (by kernel_rfl) (fun _ _ _ h => h) (Or.inl ⟨by rfl, ?_⟩) hHeld ?_ ?_
      rotate_left
      · rintro w' ⟨s3, s8, s9, sk, sr⟩
        go_simp
        with_reducible rfl
      rotate_left
      · simp only [Act.put, List.setIfInBounds_toArray, List.set_cons_zero, List.set_cons_succ, i64_w, i32_w]
        rfl
      refine take_ (i := 1) (N := some 39) (v := ?_) (a' := ?_) #[true, true, false, false, false, false, false, false, false, false, false, false, false, false] rfl rfl (by kernel_rfl) (fun _ _ _ h => h) (Or.inl ⟨by rfl, ?_⟩) hHeld ?_ ?_
      rotate_left
      · rintro w' ⟨s3, s8, s9, sk, sr⟩
        go_simp
        with_reducible rfl
      rotate_left
      · simp only [Act.put, List.setIfInBounds_toArray, List.set_cons_zero, List.set_cons_succ, i64_w, i32_w]
        rfl
      refine take_ (i := 2) (N := some 40) (v := ?_) (a' := ?_) #[true, true, true, false, false, false, false, false, false, false, false, false, false, false] rfl rfl (by kernel_rfl) (fun _ _ _ h => h) (Or.inl ⟨by rfl, ?_⟩) hHeld ?_ ?_
      rotate_left
      · rintro w' ⟨s3, s8, s9, sk, sr⟩
        go_simp
        with_reducible rfl
      rotate_left
      · simp only [Act.put, List.setIfInBounds_toArray, List.set_cons_zero, List.set_cons_succ, i64_w, i32_w]
        rfl
      refine take_ (i := 3) (N := some 41) (v := ?_) (a' := ?_) #[true, true, true, true, false, false, false, false, false, false, false, false, false, false] rfl rfl (by kernel_rfl) (fun _ _ _ h => h) (Or.inl ⟨by rfl, ?_⟩) hHeld ?_ ?_
      rotate_left
      · rintro w' ⟨s3, s8, s9, sk, sr⟩
        go_simp
        with_reducible rfl
      rotate_left
      · simp only [Act.put, List.setIfInBounds_toArray, List.set_cons_zero, List.set_cons_succ, i64_w, i32_w]
        rfl
      refine pure_ (i := 4) (N := some 42) (v := ?_) (a' := ?_) #[true, true, true, true, true, false, false, false, false, false, false, false, false, false] rfl rfl (by kernel_rfl) (fun _ _ _ h => h) (Or.inl ⟨by rfl, ?_⟩) ?_ ?_
      rotate_left
      · intro w'
        go_simp
        with_reducible rfl
      rotate_left
      · simp only [Act.put, List.setIfInBounds_toArray, List.set_cons_zero, List.set_cons_succ, i64_w, i32_w]
        rfl
      refine take_ (i := 5) (N := some 43) (v := ?_) (a' := ?_) #[true, true, true, true, true, true, false, false, false, false, false, false, false, false] rfl rfl (by kernel_rfl) (fun _ _ _ h => h) (Or.inl ⟨by rfl, ?_⟩) hHeld ?_ ?_
      rotate_left
      · rintro w' ⟨s3, s8, s9, sk, sr⟩
        go_simp
        with_reducible rfl
      rotate_left
      · simp only [Act.put, List.setIfInBounds_toArray, List.set_cons_zero, List.set_cons_succ, i64_w, i32_w]
        rfl
      refine take_ (i := 6) (N := some 44) (v := ?_) (a' := ?_) #[true, true, true, true, true, true, true, false, false, false, false, false, false, false] rfl rfl (by kernel_rfl) (fun _ _ _ h => h) (Or.inl ⟨by rfl, ?_⟩) hHeld ?_ ?_
      rotate_left
      · rintro w' ⟨s3, s8, s9, sk, sr⟩
        go_simp
        with_reducible rfl
      rotate_left
      · simp only [Act.put, List.setIfInBounds_toArray, List.set_cons_zero, List.set_cons_succ, i64_w, i32_w]
        rfl
      refine pure_ (i := 7) (N := some 45) (v := ?_) (a' := ?_) #[true, true, true, true, true, true, true, true, false, false, false, false, false, false] rfl rfl (by kernel_rfl) (fun _ _ _ h => h) (Or.inl ⟨by rfl, ?_⟩) ?_ ?_
      rotate_left
      · intro w'
        go_simp
        with_reducible rfl
      rotate_left
      · simp only [Act.put, List.setIfInBounds_toArray, List.set_cons_zero, List.set_cons_succ, i64_w, i32_w]
        rfl
      refine pure_ (i := 8) (N := some 46) (v := ?_) (a' := ?_) #[true, true, true, true, true, true, true, true, true, false, false, false, false, false] rfl rfl (by kernel_rfl) (fun _ _ _ h => h) (Or.inl ⟨by rfl, ?_⟩) ?_ ?_
      rotate_left
      · intro w'
        go_simp
        with_reducible rfl
      rotate_left
      · simp only [Act.put, List.setIfInBounds_toArray, List.set_cons_zero, List.set_cons_succ, i64_w, i32_w]
        rfl
      refine pure_ (i := 9) (N := some 47) (v := ?_) (a' := ?_) #[true, true, true, true, true, true, true, true, true, true, false, false, false, false] rfl rfl (by kernel_rfl) (fun _ _ _ h => h) (Or.inl ⟨by rfl, ?_⟩) ?_ ?_
      rotate_left
      · intro w'
        go_simp
        with_reducible rfl
      rotate_left
      · simp only [Act.put, List.setIfInBounds_toArray, List.set_cons_zero, List.set_cons_succ, i64_w, i32_w]
        rfl
      refine take_ (i := 10) (N := some 48) (v := ?_) (a' := ?_) #[true, true, true, true, true, true, true, true, true, true, true, false, false, false] rfl rfl (by kernel_rfl) (fun _ _ _ h => h) (Or.inl ⟨by rfl, ?_⟩) hHeld ?_ ?_
      rotate_left
      · rintro w' ⟨s3, s8, s9, sk, sr⟩
        go_simp
        with_reducible rfl
      rotate_left
      · simp only [Act.put, List.setIfInBounds_toArray, List.set_cons_zero, List.set_cons_succ, i64_w, i32_w]
        rfl
      refine pure_ (i := 11) (N := some 49) (v := ?_) (a' := ?_) #[true, true, true, true, true, true, true, true, true, true, true, true, false, false] rfl rfl (by kernel_rfl) (fun _ _ _ h => h) (Or.inl ⟨by rfl, ?_⟩) ?_ ?_
      rotate_left
      · intro w'
        go_simp
        with_reducible rfl
      rotate_left
      · simp only [Act.put, List.setIfInBounds_toArray, List.set_cons_zero, List.set_cons_succ, i64_w, i32_w]
        rfl
      refine pure_ (i := 12) (N := some 50) (v := ?_) (a' := ?_) #[true, true, true, true, true, true, true, true, true, true, true, true, true, false] rfl rfl (by kernel_rfl) (fun _ _ _ h => h) (Or.inl ⟨by rfl, ?_⟩) ?_ ?_
      rotate_left
      · intro w'
        go_simp
        with_reducible rfl
      rotate_left
      · simp only [Act.put, List.setIfInBounds_toArray, List.set_cons_zero, List.set_cons_succ, i64_w, i32_w]
        rfl
      refine last_ (i := 13) (N := none) #[true, true, true, true, true, true, true, true, true, true, true, true, true, true] rfl rfl (by kernel_rfl) (by decide) (fun K hK => ?_)
      refine skip_ (w1 := ?_) (by rfl) rfl ?_ ?_
      rotate_left
      · go_simp
        rfl
      refine hK.out _ _ ?_
      clear hK K
      refine done_ (by kernel_rfl) ?_
      change _ ∧ _ ∧ _ ∧ _
      refine ⟨((KeepsOthers.drew W').trans (KeepsOthers.setCell _ _ _)).from _, ?_, ?_, ?_⟩
      · intro y v hy hv
        refine (World.cell?_setCell_far _ _ _ _ ?_).trans hv
        rcases hy with rfl | hy
        · show g ≠ W.heap.size + 1
          have := H89.out
          omega
        · have := H89.out
          show g ≠ y.block
          omega
      · have s2 := HS.out.drew.put (by have := H89.out; omega) (by have := H89.out; omega) (by have := H89.out; omega) (by have := H89.out; omega) j (fourier_transform.hf a0 (fourier_transform.ats a0 a1 j) (pre ++ [x]))
        rw [List.set_set] at s2
        rw [fourier_transform.hf_snoc] at s2 ⊢
        exact s2
      · exact (Below.heap_setCell _ _ _ W.heap.size (by have := H89.out; show W.heap.size ≠ g; omega)).trans HKB.out
    case done =>
      rintro D ys W' hD rfl ⟨hs, hkb⟩ hdef
      rw [fourier_transform.hf_all] at hs
      have q3 := hs.b3.cell
      have q9 := hs.b9.cell
      have q9f := hs.b9.frozen
      have HS := Aside0.mk hs
      have HDEF := Aside0.mk hdef
      clear hs hkb hdef bk1 bk2 hB2 hS
      go_wp2
      refine ⟨nn - 1, by omega, hJ _ _ _ ⟨j + 1, D :: Ds, _, _, _, _, _, _, _, _, _, _, _, rfl, by omega, List.nodup_cons.2 ⟨fun hm => ?_, hND.out⟩, ?_⟩⟩
      · have := hDs D hm
        rw [World.size_alloc, World.size_alloc] at hD
        omega
      · have s1 := HS.out
        have s2 := s1.setAt (by have := H89.out; omega) (by have := H89.out; omega) (by have := H89.out; omega) (by have := H89.out; omega) (fourier_transform.ats a0 a1 (j + 1))
        refine ⟨s2.bel, s2.b3, s2.b8, s2.b9, s2.row, fun E hE => ?_⟩
        rcases List.mem_cons.1 hE with rfl | hE
        · refine ⟨by rw [World.size_alloc, World.size_alloc] at hD; omega, ?_⟩
          exact (KeepsOthers.setCell W' _ _).same _ _ HDEF.out rfl
        · exact s2.ds E hE
    case stop =>
      intro D c pre W' _ _ h _
      exact h.elim
  · have h1' : ¬ (j : Int) < (l2.length : Int) := by omega
    obtain rfl : j = l2.length := by omega
    have q8 := hS.b8.cell
    go_wp2
    refine fourier_transform.leaves (fun W' s => ?_) Ds W hnd hS
    exact ⟨_, results_tmp rfl _ _ _, _, rfl, (fourier_transform.oo_all a0 a1 l2) ▸ s.row, s.bel⟩
end
set_option maxHeartbeats 64000000 in
set_option maxRecDepth 1000000 in
theorem fourier_transform.tail {u0 u2 u4 u5 u6 u8 u9 u10 u11 u12 u13 u14 u15 u18 u19 u20 u21 u22 u23 u24 u25 u26 u27 u28 u29 u30 u31 u32 u33 u34 u35 u36 u37 u38 u39 u40 u41 u42 u43 u44 u45 u46 u47 u48 u49 u50 u51 u52 u53 u54 u55 u56 u57 u58 u59 u60 u61 u62 u63 u64 u65 u66 u67 u68 u69 u70 u71 u72 u73 u74 u75 u76 u77 u78 u79 u80 u81 u82 u83 u84 u85 u86 u87 u88 u89 u90 u91 u92 u93 u94 u95 u96 u97 u98 u99 u100 u101 u102 u103 u104 u105 u106 u107 u108 u109 u110 u111 u112 u113 u114 u115 u116 u117 u118 u119 u120 u121 u122 u123 u124 u125 u126 u127 u128 u129 u130 u131 u132 u133 u134 u135 u136 u137 u138 u139 u140 u141 u142 u143 u144 u145 u146 u147 u148 : Value} (p wv : Int) (n m : Nat) (hn : n = 2 * m) (a b : List Int) (A16 A17 : Option Addr) (c16 c17 : Nat) (B : Addr) (w : World)
    (hra : Kd.C (Kd.int .i64) w A16 a.length a) (hrb : Kd.C (Kd.int .i64) w A17 b.length b) (hp : w.cell? B = some (.int .i64 p)) (hp0 : p ≠ 0) (ha : a.length = m) (hb : b.length = m) (hm1 : 1 ≤ m) (hm : 2 * m ≤ 1000000) (C : Code) (hC : C = fourier_transform.spine 6 fourier_transform.body) (R : Ending → World → Prop)
    (hQ : ∀ v0_ w', Kd.R (Kd.int .i64) 2 w' w.heap.size (fun _ => True) v0_ (fourier_transform.out p wv a b m m) → Below w.heap.size w w' → R (.returned v0_) w') :
    Code.wp Try.prog C (bodyPost Try.prog Try.f67 R) ⟨(u0 :: .int .i64 wv :: u2 :: .pointer (some B) :: u4 :: u5 :: u6 :: .int .i64 (n : Int) :: u8 :: u9 :: u10 :: u11 :: u12 :: u13 :: u14 :: u15 :: .slice A16 a.length c16 :: .slice A17 b.length c17 :: u18 :: u19 :: u20 :: u21 :: u22 :: u23 :: u24 :: u25 :: u26 :: u27 :: u28 :: u29 :: u30 :: u31 :: u32 :: u33 :: u34 :: u35 :: u36 :: u37 :: u38 :: u39 :: u40 :: u41 :: u42 :: u43 :: u44 :: u45 :: u46 :: u47 :: u48 :: u49 :: u50 :: u51 :: u52 :: u53 :: u54 :: u55 :: u56 :: u57 :: u58 :: u59 :: u60 :: u61 :: u62 :: u63 :: u64 :: u65 :: u66 :: u67 :: u68 :: u69 :: u70 :: u71 :: u72 :: u73 :: u74 :: u75 :: u76 :: u77 :: u78 :: u79 :: u80 :: u81 :: u82 :: u83 :: u84 :: u85 :: u86 :: u87 :: u88 :: u89 :: u90 :: u91 :: u92 :: u93 :: u94 :: u95 :: u96 :: u97 :: u98 :: u99 :: u100 :: u101 :: u102 :: u103 :: u104 :: u105 :: u106 :: u107 :: u108 :: u109 :: u110 :: u111 :: u112 :: u113 :: u114 :: u115 :: u116 :: u117 :: u118 :: u119 :: u120 :: u121 :: u122 :: u123 :: u124 :: u125 :: u126 :: u127 :: u128 :: u129 :: u130 :: u131 :: u132 :: u133 :: u134 :: u135 :: u136 :: u137 :: u138 :: u139 :: u140 :: u141 :: u142 :: u143 :: u144 :: u145 :: u146 :: u147 :: u148 :: []).toArray, []⟩ w := by
  subst hC
  conv => arg 2; whnf
  have HQ := Aside0.mk hQ
  clear hQ
  have HRA := Aside0.mk hra
  have HRB := Aside0.mk hrb
  have HP := Aside0.mk hp
  have HN := Aside0.mk hn
  have hnb : n ≤ 1000000 := by omega
  clear hn
  have HLA := Aside0.mk ha
  have HLB := Aside0.mk hb
  have hpe : (p == 0) = false := beq_eq_false_iff_ne.mpr hp0
  have hp0' : ¬ p = 0 := hp0
  clear hra hrb hp ha hb hp0
  go_wp2_with ((with_reducible refine gate_dst (N := 101) rfl ?_); refine Kd.R_make (Kd.int .i64) _ 2 rfl (N := 101) rfl 23 _ _ rfl (n : Int) rfl rfl Try.underlying23 (.int .i64 0) 8 info2 rfl (by decide) (by omega) 0 (ok := fun _ => True) (okp := fun _ => True) rfl (fun _ hk => hk) trivial (by omega) (by omega) (Below.refl _ _) (Nat.le_refl _) ?_; intro v139 w1 ho hb_ hg_ hnew_; clear hg_ hnew_; rw [Int.toNat_natCast] at ho; have hn_ := HN.out; rw [hn_] at ho;  clear hn_; have HO := Aside0.mk ho; have HB := Aside0.mk hb_; clear ho hb_)
  obtain ⟨g, cap, hv, hg1, hg2, cells, hcells⟩ := Kd.R_form HO.out (by simp; omega)
  rw [List.length_replicate, ← HN.out] at hv
  subst hv
  clear hg2 hcells
  have HG := Aside0.mk hg1
  clear hg1
  go_loopw [19, 104] (fun a19 a104 wr => ∃ j : Nat, a104 = .int .i64 j ∧ a19 = .int .i64 (fourier_transform.ats p wv j) ∧ j ≤ m ∧ Aside0 (Kd.R (Kd.int .i64) 2 wr w.heap.size (fun _ => True) (.slice (some ⟨g, 0, none⟩) n cap) (fourier_transform.out p wv a b m j)) ∧ Aside0 (Below w.heap.size w wr)) (fun _ i _ => m - (intOf i).toNat)
  case atStart => exact ⟨0, rfl, rfl, Nat.zero_le _, HO, HB⟩
  case round =>
    clear HO HB
    obtain ⟨j, rfl, rfl, hj, HO, HB⟩ := hrel
    have hp1 : wr.cell? B = some (.int .i64 p) := (HB.out.cell (World.block_lt_of_cell? w _ HP.out)).trans HP.out
    by_cases hlt : j < m
    · obtain ⟨ada, eA, hxa0⟩ := Kd.at_int HRA.out (j : Int) (by omega) (by have := HLA.out; omega)
      obtain ⟨adb, eB, hxb0⟩ := Kd.at_int HRB.out (j : Int) (by omega) (by have := HLB.out; omega)
      subst eA eB
      rw [Int.toNat_natCast] at hxa0 hxb0
      have hxa := (HB.out.cell (World.block_lt_of_cell? w _ hxa0)).trans hxa0
      have hxb := (HB.out.cell (World.block_lt_of_cell? w _ hxb0)).trans hxb0
      have hag : g ≠ (ada.add j).block := by have h_ := World.block_lt_of_cell? w _ hxa0; have h2_ := HG.out; omega
      clear hxa0 hxb0
      have hja : j < a.length := by have := HLA.out; omega
      have hjb : j < b.length := by have := HLB.out; omega
      have h1 : j < n := by have := HN.out; omega
      have h1' : (j : Int) < (n : Int) := by have := HN.out; omega
      have h2 : (j : Int) + (m : Int) < (n : Int) := by have := HN.out; omega
      have h3 : (0 : Int) ≤ (j : Int) + (m : Int) := by omega
      have h4 : ((j : Int) + (m : Int)).toNat = j + m := by omega
      have h5 : IntKind.i64.wrap ((j : Int) + (m : Int)) = (j : Int) + (m : Int) := IntWalk.i64_in _ (by omega)
      have h6 : (n : Int) / 2 = (m : Int) := by have := HN.out; omega
      have h7 : Int.tdiv (n : Int) 2 = (m : Int) := by rw [Int.tdiv_eq_ediv_of_nonneg (by omega)]; exact h6
      have h8 : IntKind.i64.wrap (m : Int) = (m : Int) := IntWalk.i64_in _ (by omega)
      rcases (Kd.own_of_R HO.out).2 with ⟨hv1, hz1⟩ | ⟨g1, k1, cur1, hv1, hb1, hh1, hnc1, hcm1, hcs1, ht1⟩
      · simp at hv1
      obtain rfl : g = g1 := by simp at hv1; exact hv1.1
      have hf1 : wr.frozen? ⟨g, j, none⟩ = false := blk_frozen hh1 _
      have hf2 : wr.frozen? ⟨g, j + m, none⟩ = false := blk_frozen hh1 _
      have hln := fourier_transform.out_length p wv a b m j
      obtain ⟨c1, hc1⟩ : ∃ u, wr.cell? ⟨g, j, none⟩ = some u := ⟨_, (blk_cell hh1 j).trans (Array.getElem?_eq_getElem (by have := HN.out; omega))⟩
      obtain ⟨c2, hc2⟩ : ∃ u, wr.cell? ⟨g, j + m, none⟩ = some u := ⟨_, (blk_cell hh1 (j + m)).trans (Array.getElem?_eq_getElem (by have := HN.out; omega))⟩
      clear hv1 hb1 hnc1 hcm1 hcs1 ht1 hh1 hln
      have hBg : B.block ≠ g := by have h_ := World.block_lt_of_cell? w _ HP.out; have h2_ := HG.out; omega
      have hne1 : (⟨g, j, none⟩ : Addr) ≠ B := fun h_ => hBg (by rw [← h_])
      have hne2 : (⟨g, j + m, none⟩ : Addr) ≠ B := fun h_ => hBg (by rw [← h_])
      have hmp : 0 < m := by omega
      have hne3 : (⟨g, j, none⟩ : Addr) ≠ ⟨g, j + m, none⟩ := fun h_ => by have h2_ := congrArg Addr.off h_; simp only at h2_; omega
      have hne4 : (⟨g, j + m, none⟩ : Addr) ≠ ⟨g, j, none⟩ := fun h_ => by have h2_ := congrArg Addr.off h_; simp only at h2_; omega
      go_wp2
      go_quiet (fail)
      go_wp2
      refine start_ (n := 29) (S := fun w' => w'.cell? (ada.add j) = some (.int .i64 (rd a j)) ∧ w'.cell? B = some (.int .i64 p)) (ds := []) #[false, false, false, false, false, false, false, false, false, false, false, false, false, false, false, false, false, false, false, false, false, false, false, false, false, false, false, false, false] (by kernel_rfl) rfl rfl ⟨hxa, hp1⟩ (fun hHeld => ?_)
      have hm_ := hne1
      refine pure_ (i := 0) (N := some 115) (v := ?_) (a' := ?_) #[true, false, false, false, false, false, false, false, false, false, false, false, false, false, false, false, false, false, false, false, false, false, false, false, false, false, false, false, false] rfl rfl (by kernel_rfl) (fun _ _ _ h => h) (Or.inl ⟨by rfl, ?_⟩) ?_ ?_
      rotate_left
      · intro w'
        go_simp
        with_reducible rfl
      rotate_left
      · simp only [Act.put, List.setIfInBounds_toArray, List.set_cons_zero, List.set_cons_succ, i64_w, i32_w]
        rfl
      refine pure_ (i := 1) (N := some 116) (v := ?_) (a' := ?_) #[true, true, false, false, false, false, false, false, false, false, false, false, false, false, false, false, false, false, false, false, false, false, false, false, false, false, false, false, false] rfl rfl (by kernel_rfl) (fun _ _ _ h => h) (Or.inl ⟨by rfl, ?_⟩) ?_ ?_
      rotate_left
      · intro w'
        go_simp
        with_reducible rfl
      rotate_left
      · simp only [Act.put, List.setIfInBounds_toArray, List.set_cons_zero, List.set_cons_succ, i64_w, i32_w]
        rfl
      refine pure_ (i := 2) (N := some 117) (v := ?_) (a' := ?_) #[true, true, true, false, false, false, false, false, false, false, false, false, false, false, false, false, false, false, false, false, false, false, false, false, false, false, false, false, false] rfl rfl (by kernel_rfl) (fun _ _ _ h => h) (Or.inl ⟨by rfl, ?_⟩) ?_ ?_
      rotate_left
      · intro w'
        go_simp
        with_reducible rfl
      rotate_left
      · simp only [Act.put, List.setIfInBounds_toArray, List.set_cons_zero, List.set_cons_succ, i64_w, i32_w]
        rfl
      refine pure_ (i := 3) (N := some 118) (v := ?_) (a' := ?_) #[true, true, true, true, false, false, false, false, false, false, false, false, false, false, false, false, false, false, false, false, false, false, false, false, false, false, false, false, false] rfl rfl (by kernel_rfl) (fun _ _ _ h => h) (Or.inl ⟨by rfl, ?_⟩) ?_ ?_
      rotate_left
      · intro w'
        go_simp
        with_reducible rfl
      rotate_left
      · simp only [Act.put, List.setIfInBounds_toArray, List.set_cons_zero, List.set_cons_succ, i64_w, i32_w]
        rfl
      refine pure_ (i := 4) (N := some 119) (v := ?_) (a' := ?_) #[true, true, true, true, true, false, false, false, false, false, false, false, false, false, false, false, false, false, false, false, false, false, false, false, false, false, false, false, false] rfl rfl (by kernel_rfl) (fun _ _ _ h => h) (Or.inl ⟨by rfl, ?_⟩) ?_ ?_
      rotate_left
      · intro w'
        go_simp
        with_reducible rfl
      rotate_left
      · simp only [Act.put, List.setIfInBounds_toArray, List.set_cons_zero, List.set_cons_succ, i64_w, i32_w]
        rfl
      refine pure_ (i := 5) (N := some 120) (v := ?_) (a' := ?_) #[true, true, true, true, true, true, false, false, false, false, false, false, false, false, false, false, false, false, false, false, false, false, false, false, false, false, false, false, false] rfl rfl (by kernel_rfl) (fun _ _ _ h => h) (Or.inl ⟨by rfl, ?_⟩) ?_ ?_
      rotate_left
      · intro w'
        go_simp
        with_reducible rfl
      rotate_left
      · simp only [Act.put, List.setIfInBounds_toArray, List.set_cons_zero, List.set_cons_succ, i64_w, i32_w]
        rfl
      refine pure_ (i := 6) (N := some 121) (v := ?_) (a' := ?_) #[true, true, true, true, true, true, true, false, false, false, false, false, false, false, false, false, false, false, false, false, false, false, false, false, false, false, false, false, false] rfl rfl (by kernel_rfl) (fun _ _ _ h => h) (Or.inl ⟨by rfl, ?_⟩) ?_ ?_
      rotate_left
      · intro w'
        go_simp
        with_reducible rfl
      rotate_left
      · simp only [Act.put, List.setIfInBounds_toArray, List.set_cons_zero, List.set_cons_succ, i64_w, i32_w]
        rfl
      refine pure_ (i := 7) (N := some 122) (v := ?_) (a' := ?_) #[true, true, true, true, true, true, true, true, false, false, false, false, false, false, false, false, false, false, false, false, false, false, false, false, false, false, false, false, false] rfl rfl (by kernel_rfl) (fun _ _ _ h => h) (Or.inl ⟨by rfl, ?_⟩) ?_ ?_
      rotate_left
      · intro w'
        go_simp
        with_reducible rfl
      rotate_left
      · simp only [Act.put, List.setIfInBounds_toArray, List.set_cons_zero, List.set_cons_succ, i64_w, i32_w]
        rfl
      refine pure_ (i := 8) (N := some 123) (v := ?_) (a' := ?_) #[true, true, true, true, true, true, true, true, true, false, false, false, false, false, false, false, false, false, false, false, false, false, false, false, false, false, false, false, false] rfl rfl (by kernel_rfl) (fun _ _ _ h => h) (Or.inl ⟨by rfl, ?_⟩) ?_ ?_
      rotate_left
      · intro w'
        go_simp
        with_reducible rfl
      rotate_left
      · simp only [Act.put, List.setIfInBounds_toArray, List.set_cons_zero, List.set_cons_succ, i64_w, i32_w]
        rfl
      refine pure_ (i := 9) (N := some 124) (v := ?_) (a' := ?_) #[true, true, true, true, true, true, true, true, true, true, false, false, false, false, false, false, false, false, false, false, false, false, false, false, false, false, false, false, false] rfl rfl (by kernel_rfl) (fun _ _ _ h => h) (Or.inl ⟨by rfl, ?_⟩) ?_ ?_
      rotate_left
      · intro w'
        go_simp
        with_reducible rfl
      rotate_left
      · simp only [Act.put, List.setIfInBounds_toArray, List.set_cons_zero, List.set_cons_succ, i64_w, i32_w]
        rfl
      refine take_ (i := 10) (N := some 125) (v := ?_) (a' := ?_) #[true, true, true, true, true, true, true, true, true, true, true, false, false, false, false, false, false, false, false, false, false, false, false, false, false, false, false, false, false] rfl rfl (by kernel_rfl) (fun _ _ _ h => h) (Or.inl ⟨by rfl, ?_⟩) hHeld ?_ ?_
      rotate_left
      · rintro w' ⟨s0, s1⟩
        go_simp
        with_reducible rfl
      rotate_left
      · simp only [Act.put, List.setIfInBounds_toArray, List.set_cons_zero, List.set_cons_succ, i64_w, i32_w]
        rfl
      refine pure_ (i := 11) (N := some 126) (v := ?_) (a' := ?_) #[true, true, true, true, true, true, true, true, true, true, true, true, false, false, false, false, false, false, false, false, false, false, false, false, false, false, false, false, false] rfl rfl (by kernel_rfl) (fun _ _ _ h => h) (Or.inl ⟨by rfl, ?_⟩) ?_ ?_
      rotate_left
      · intro w'
        go_simp
        with_reducible rfl
      rotate_left
      · simp only [Act.put, List.setIfInBounds_toArray, List.set_cons_zero, List.set_cons_succ, i64_w, i32_w]
        rfl
      refine pure_ (i := 12) (N := some 127) (v := ?_) (a' := ?_) #[true, true, true, true, true, true, true, true, true, true, true, true, true, false, false, false, false, false, false, false, false, false, false, false, false, false, false, false, false] rfl rfl (by kernel_rfl) (fun _ _ _ h => h) (Or.inl ⟨by rfl, ?_⟩) ?_ ?_
      rotate_left
      · intro w'
        go_simp
        with_reducible rfl
      rotate_left
      · simp only [Act.put, List.setIfInBounds_toArray, List.set_cons_zero, List.set_cons_succ, i64_w, i32_w]
        rfl
      refine take_ (i := 13) (N := some 128) (v := ?_) (a' := ?_) #[true, true, true, true, true, true, true, true, true, true, true, true, true, true, false, false, false, false, false, false, false, false, false, false, false, false, false, false, false] rfl rfl (by kernel_rfl) (fun _ _ _ h => h) (Or.inl ⟨by rfl, ?_⟩) hHeld ?_ ?_
      rotate_left
      · rintro w' ⟨s0, s1⟩
        go_simp
        with_reducible rfl
      rotate_left
      · simp only [Act.put, List.setIfInBounds_toArray, List.set_cons_zero, List.set_cons_succ, i64_w, i32_w]
        rfl
      refine pure_ (i := 14) (N := some 129) (v := ?_) (a' := ?_) #[true, true, true, true, true, true, true, true, true, true, true, true, true, true, true, false, false, false, false, false, false, false, false, false, false, false, false, false, false] rfl rfl (by kernel_rfl) (fun _ _ _ h => h) (Or.inl ⟨by rfl, ?_⟩) ?_ ?_
      rotate_left
      · intro w'
        go_simp
        with_reducible rfl
      rotate_left
      · simp only [Act.put, List.setIfInBounds_toArray, List.set_cons_zero, List.set_cons_succ, i64_w, i32_w]
        rfl
      refine pure_ (i := 15) (N := some 130) (v := ?_) (a' := ?_) #[true, true, true, true, true, true, true, true, true, true, true, true, true, true, true, true, false, false, false, false, false, false, false, false, false, false, false, false, false] rfl rfl (by kernel_rfl) (fun _ _ _ h => h) (Or.inl ⟨by rfl, ?_⟩) ?_ ?_
      rotate_left
      · intro w'
        go_simp
        with_reducible rfl
      rotate_left
      · simp only [Act.put, List.setIfInBounds_toArray, List.set_cons_zero, List.set_cons_succ, i64_w, i32_w]
        rfl
      refine pure_ (i := 16) (N := some 131) (v := ?_) (a' := ?_) #[true, true, true, true, true, true, true, true, true, true, true, true, true, true, true, true, true, false, false, false, false, false, false, false, false, false, false, false, false] rfl rfl (by kernel_rfl) (fun _ _ _ h => h) (Or.inl ⟨by rfl, ?_⟩) ?_ ?_
      rotate_left
      · intro w'
        go_simp
        with_reducible rfl
      rotate_left
      · simp only [Act.put, List.setIfInBounds_toArray, List.set_cons_zero, List.set_cons_succ, i64_w, i32_w]
        rfl
      refine pure_ (i := 17) (N := some 132) (v := ?_) (a' := ?_) #[true, true, true, true, true, true, true, true, true, true, true, true, true, true, true, true, true, true, false, false, false, false, false, false, false, false, false, false, false] rfl rfl (by kernel_rfl) (fun _ _ _ h => h) (Or.inl ⟨by rfl, ?_⟩) ?_ ?_
      rotate_left
      · intro w'
        go_simp
        with_reducible rfl
      rotate_left
      · simp only [Act.put, List.setIfInBounds_toArray, List.set_cons_zero, List.set_cons_succ, i64_w, i32_w]
        rfl
      refine take_ (i := 18) (N := some 133) (v := ?_) (a' := ?_) #[true, true, true, true, true, true, true, true, true, true, true, true, true, true, true, true, true, true, true, false, false, false, false, false, false, false, false, false, false] rfl rfl (by kernel_rfl) (fun _ _ _ h => h) (Or.inl ⟨by rfl, ?_⟩) hHeld ?_ ?_
      rotate_left
      · rintro w' ⟨s0, s1⟩
        go_simp
        with_reducible rfl
      rotate_left
      · simp only [Act.put, List.setIfInBounds_toArray, List.set_cons_zero, List.set_cons_succ, i64_w, i32_w]
        rfl
      refine pure_ (i := 19) (N := some 134) (v := ?_) (a' := ?_) #[true, true, true, true, true, true, true, true, true, true, true, true, true, true, true, true, true, true, true, true, false, false, false, false, false, false, false, false, false] rfl rfl (by kernel_rfl) (fun _ _ _ h => h) (Or.inl ⟨by rfl, ?_⟩) ?_ ?_
      rotate_left
      · intro w'
        go_simp
        with_reducible rfl
      rotate_left
      · simp only [Act.put, List.setIfInBounds_toArray, List.set_cons_zero, List.set_cons_succ, i64_w, i32_w]
        rfl
      refine pure_ (i := 20) (N := some 135) (v := ?_) (a' := ?_) #[true, true, true, true, true, true, true, true, true, true, true, true, true, true, true, true, true, true, true, true, true, false, false, false, false, false, false, false, false] rfl rfl (by kernel_rfl) (fun _ _ _ h => h) (Or.inl ⟨by rfl, ?_⟩) ?_ ?_
      rotate_left
      · intro w'
        go_simp
        with_reducible rfl
      rotate_left
      · simp only [Act.put, List.setIfInBounds_toArray, List.set_cons_zero, List.set_cons_succ, i64_w, i32_w]
        rfl
      refine take_ (i := 21) (N := some 136) (v := ?_) (a' := ?_) #[true, true, true, true, true, true, true, true, true, true, true, true, true, true, true, true, true, true, true, true, true, true, false, false, false, false, false, false, false] rfl rfl (by kernel_rfl) (fun _ _ _ h => h) (Or.inl ⟨by rfl, ?_⟩) hHeld ?_ ?_
      rotate_left
      · rintro w' ⟨s0, s1⟩
        go_simp
        with_reducible rfl
      rotate_left
      · simp only [Act.put, List.setIfInBounds_toArray, List.set_cons_zero, List.set_cons_succ, i64_w, i32_w]
        rfl
      refine pure_ (i := 22) (N := some 137) (v := ?_) (a' := ?_) #[true, true, true, true, true, true, true, true, true, true, true, true, true, true, true, true, true, true, true, true, true, true, true, false, false, false, false, false, false] rfl rfl (by kernel_rfl) (fun _ _ _ h => h) (Or.inl ⟨by rfl, ?_⟩) ?_ ?_
      rotate_left
      · intro w'
        go_simp
        with_reducible rfl
      rotate_left
      · simp only [Act.put, List.setIfInBounds_toArray, List.set_cons_zero, List.set_cons_succ, i64_w, i32_w]
        rfl
      refine take_ (i := 23) (N := some 138) (v := ?_) (a' := ?_) #[true, true, true, true, true, true, true, true, true, true, true, true, true, true, true, true, true, true, true, true, true, true, true, true, false, false, false, false, false] rfl rfl (by kernel_rfl) (fun _ _ _ h => h) (Or.inl ⟨by rfl, ?_⟩) hHeld ?_ ?_
      rotate_left
      · rintro w' ⟨s0, s1⟩
        go_simp
        with_reducible rfl
      rotate_left
      · simp only [Act.put, List.setIfInBounds_toArray, List.set_cons_zero, List.set_cons_succ, i64_w, i32_w]
        rfl
      refine pure_ (i := 24) (N := some 139) (v := ?_) (a' := ?_) #[true, true, true, true, true, true, true, true, true, true, true, true, true, true, true, true, true, true, true, true, true, true, true, true, true, false, false, false, false] rfl rfl (by kernel_rfl) (fun _ _ _ h => h) (Or.inl ⟨by rfl, ?_⟩) ?_ ?_
      rotate_left
      · intro w'
        go_simp
        with_reducible rfl
      rotate_left
      · simp only [Act.put, List.setIfInBounds_toArray, List.set_cons_zero, List.set_cons_succ, i64_w, i32_w]
        rfl
      refine pure_ (i := 25) (N := some 140) (v := ?_) (a' := ?_) #[true, true, true, true, true, true, true, true, true, true, true, true, true, true, true, true, true, true, true, true, true, true, true, true, true, true, false, false, false] rfl rfl (by kernel_rfl) (fun _ _ _ h => h) (Or.inl ⟨by rfl, ?_⟩) ?_ ?_
      rotate_left
      · intro w'
        go_simp
        with_reducible rfl
      rotate_left
      · simp only [Act.put, List.setIfInBounds_toArray, List.set_cons_zero, List.set_cons_succ, i64_w, i32_w]
        rfl
      refine one_ (i := 26) (N := none) #[true, true, true, true, true, true, true, true, true, true, true, true, true, true, true, true, true, true, true, true, true, true, true, true, true, true, true, false, false] rfl rfl (by kernel_rfl) (by decide) (fun K hK => ?_)
      refine skip_ (w1 := ?_) (by rfl) rfl ?_ ?_
      rotate_left
      · go_simp
        rfl
      refine hK.out _ _ ⟨(World.cell?_setCell_far _ _ _ _ hag).trans hHeld.1, (World.cell?_setCell_far _ _ _ _ (Ne.symm hBg)).trans hHeld.2⟩ (fun hHeld => ?_)
      clear hK K
      refine pure_ (i := 27) (N := some 141) (v := ?_) (a' := ?_) #[true, true, true, true, true, true, true, true, true, true, true, true, true, true, true, true, true, true, true, true, true, true, true, true, true, true, true, true, false] rfl rfl (by kernel_rfl) (fun _ _ _ h => h) (Or.inl ⟨by rfl, ?_⟩) ?_ ?_
      rotate_left
      · intro w'
        go_simp
        with_reducible rfl
      rotate_left
      · simp only [Act.put, List.setIfInBounds_toArray, List.set_cons_zero, List.set_cons_succ, i64_w, i32_w]
        rfl
      refine one_ (i := 28) (N := none) #[true, true, true, true, true, true, true, true, true, true, true, true, true, true, true, true, true, true, true, true, true, true, true, true, true, true, true, true, true] rfl rfl (by kernel_rfl) (by decide) (fun K hK => ?_)
      refine skip_ (w1 := ?_) (by rfl) rfl ?_ ?_
      rotate_left
      · go_simp
        rfl
      refine hK.out _ _ ⟨(World.cell?_setCell_far _ _ _ _ hag).trans hHeld.1, (World.cell?_setCell_far _ _ _ _ (Ne.symm hBg)).trans hHeld.2⟩ (fun hHeld => ?_)
      clear hK K
      refine done_ (by kernel_rfl) ?_
      obtain ⟨hH1_, hH2_⟩ := hHeld
      go_wp2
      go_roundw
      case measure => simp [intOf]; omega
      case rel =>
        refine ⟨j + 1, by simp, ?_, by omega, ⟨?_⟩, ⟨?_⟩⟩
        · rfl
        · have q1_ := Kd.R_putn (Kd.R_drewN HO.out (nq + 1)) (j : Int) (fourier_transform.lo p wv a b j)
          have q2_ := Kd.R_putn q1_ ((j + m : Nat) : Int) (fourier_transform.hi p wv a b j)
          exact q2_
        · exact below_set (below_set (pw_below_drewN HB.out _) HG.out) HG.out
    · obtain rfl : j = m := by omega
      have hna : ¬ ((j : Int) < (a.length : Int)) := by have := HLA.out; omega
      have hnb : (decide ((j : Int) < (a.length : Int))) = false := decide_eq_false hna
      have hnc : ¬ (j < a.length) := by have := HLA.out; omega
      go_wp2
      exact HQ.out _ _ HO.out HB.out
mutual
def fourier_transform.l0 : Nat → Int → List Int → List Int → Int → List Int → List Int → Int → Option (List Int)
  | 0, _, _, _, _, _, _, _ => none
  | k + 1, x1, x2, x3, x7, x13, x14, x15 => if x15 < x7 then (if 0 ≤ x15 then (if x15 < (x2.length : Int) then ((some (([rd x2 x15] : List Int) : List Int)).bind fun y115 => (if x13.length + y115.length < 17592186044416 then (if 0 ≤ (wrap64 (x15 + 1)) then (if (wrap64 (x15 + 1)) < (x2.length : Int) then ((some (([rd x2 (wrap64 (x15 + 1))] : List Int) : List Int)).bind fun y122 => (if x14.length + y122.length < 17592186044416 then (fourier_transform.l0 k x1 x2 x3 x7 (x13 ++ y115) (x14 ++ y122) (wrap64 (x15 + 2))) else (none))) else (none)) else (none)) else (none))) else (none)) else (none)) else (if 0 < (x3.length : Int) then (if (rd x3 0) = 0 then (none) else ((fourier_transform.f k (rd x3 0) (Int.tmod (wrap64 (x1 * x1)) (rd x3 0)) x13).bind fun t130 => ((fourier_transform.f k (rd x3 0) (Int.tmod (wrap64 (x1 * x1)) (rd x3 0)) x14).bind fun t135 => fourier_transform.fin x3 x7 x1 t130 t135))) else (none))
def fourier_transform.f : Nat → Int → Int → List Int → Option (List Int)
  | 0, _, _, _ => none
  | k + 1, a0, a1, l2 => if ((l2.length : Int) % 2) > 0 then (if a0 = 0 then none else if l2.length ≤ 1000000 then some (fourier_transform.oddf a0 a1 l2) else none) else (if 0 ≤ (wrap64 ((l2.length : Int) / 2)) then (if (wrap64 ((l2.length : Int) / 2) : Int).toNat ≤ 35184372088832 then (fourier_transform.l0 k a1 l2 [a0] (l2.length : Int) (List.replicate 0 0) (List.replicate 0 0) 0) else (none)) else (none))
end
theorem fourier_transform.mono_l : ∀ k, (∀ y0 y1 y2, LeO (fourier_transform.f k y0 y1 y2) (fourier_transform.f (k + 1) y0 y1 y2)) ∧ (∀ y0 y1 y2 y3 y4 y5 y6, LeO (fourier_transform.l0 k y0 y1 y2 y3 y4 y5 y6) (fourier_transform.l0 (k + 1) y0 y1 y2 y3 y4 y5 y6))
  | 0 => ⟨fun _ _ _ r h => by simp [fourier_transform.f] at h, fun _ _ _ _ _ _ _ r h => by simp [fourier_transform.l0] at h⟩
  | k + 1 => by
    obtain ⟨ih0, ih1⟩ := fourier_transform.mono_l k
    refine ⟨?_, ?_⟩
    · intro y0 y1 y2
      unfold fourier_transform.f
      repeat' first
      | (with_reducible exact ih0 _ _ _)
      | (with_reducible exact ih1 _ _ _ _ _ _ _)
      | (with_reducible exact LeO.refl _)
      | (with_reducible exact LeO.none _)
      | (with_reducible refine LeO.ite ?_ ?_)
      | (with_reducible refine LeO.bind ?_ (fun _ => ?_))
      | exact ih0 _ _ _
      | exact ih1 _ _ _ _ _ _ _
      | exact LeO.none _
      | refine LeO.ite ?_ ?_
      | refine LeO.bind ?_ (fun _ => ?_)
    · intro y0 y1 y2 y3 y4 y5 y6
      unfold fourier_transform.l0
      repeat' first
      | (with_reducible exact ih0 _ _ _)
      | (with_reducible exact ih1 _ _ _ _ _ _ _)
      | (with_reducible exact LeO.refl _)
      | (with_reducible exact LeO.none _)
      | (with_reducible refine LeO.ite ?_ ?_)
      | (with_reducible refine LeO.bind ?_ (fun _ => ?_))
      | exact ih0 _ _ _
      | exact ih1 _ _ _ _ _ _ _
      | exact LeO.refl _
      | exact LeO.none _
      | refine LeO.ite ?_ ?_
      | refine LeO.bind ?_ (fun _ => ?_)
theorem fourier_transform.mono : ∀ a0 a1 a2 k, LeO (fourier_transform.f k a0 a1 a2) (fourier_transform.f (k + 1) a0 a1 a2) := by
  intro a0 a1 a2 k
  obtain ⟨ih0, ih1⟩ := fourier_transform.mono_l k
  exact ih0 a0 a1 a2
def fourier_transform.T14 : Bool × List (List Nat × List Nat) := (true, [([], []), ([0], [0]), ([1], [1]), ([], []), ([3], [3]), ([4], [4]), ([2, 0, 1, 2], [2]), ([5, 6, 0, 1, 2, 3, 4, 5, 6], [5])])
def fourier_transform.B14 : List Nat := [0, 1, 3, 0, 8, 24, 7, 127]
theorem fourier_transform.tab14 : rtab .any (opsOf Try.f67 14) = fourier_transform.T14 := by kernel_rfl
theorem fourier_transform.bits14 : waitsOk fourier_transform.T14.2 fourier_transform.B14 = true := by kernel_rfl
def fourier_transform.T18 : Bool × List (List Nat × List Nat) := (true, [([], []), ([], []), ([], []), ([1, 2], [1, 2]), ([3], [3]), ([4], [4]), ([0, 5], [0, 5]), ([], []), ([], []), ([], []), ([9], [9]), ([8, 10], [8, 10]), ([11], [11]), ([12], [12]), ([7, 13, 6], [7, 13]), ([6, 14, 0, 1, 2, 3, 4, 5, 6], [0, 6]), ([14, 15, 0, 1, 2, 3, 4, 5, 6, 7, 8, 9, 10, 11, 12, 13, 14, 15], [7, 14])])
def fourier_transform.B18 : List Nat := [0, 0, 0, 6, 14, 30, 63, 0, 0, 0, 512, 1792, 3840, 7936, 16383, 32767, 65535]
theorem fourier_transform.tab18 : rtab .any (opsOf Try.f67 18) = fourier_transform.T18 := by kernel_rfl
theorem fourier_transform.bits18 : waitsOk fourier_transform.T18.2 fourier_transform.B18 = true := by kernel_rfl
def fourier_transform.T19 : Bool × List (List Nat × List Nat) := (true, [([], []), ([], []), ([], []), ([1, 2], [1, 2]), ([], []), ([3, 4], [3, 4]), ([], []), ([0, 5, 6], [0, 5, 6]), ([], []), ([], []), ([], []), ([9, 10], [9, 10]), ([], []), ([11, 12], [11, 12]), ([], []), ([8, 13, 14, 7], [8, 13, 14]), ([7, 15, 0, 1, 2, 3, 4, 5, 6, 7], [7]), ([15, 16, 0, 1, 2, 3, 4, 5, 6, 7, 8, 9, 10, 11, 12, 13, 14, 15, 16], [15])])
def fourier_transform.B19 : List Nat := [0, 0, 0, 6, 0, 30, 0, 127, 0, 0, 0, 1536, 0, 7680, 0, 32767, 65535, 131071]
theorem fourier_transform.tab19 : rtab .any (opsOf Try.f67 19) = fourier_transform.T19 := by kernel_rfl
theorem fourier_transform.bits19 : waitsOk fourier_transform.T19.2 fourier_transform.B19 = true := by kernel_rfl
set_option maxHeartbeats 64000000 in
set_option maxRecDepth 100000 in
theorem fourier_transform.callsK (k : Nat) : ∀ (a0 : Int) (a1 : Int) (A2 : Option Addr) (c2 : Nat) (l2 : List Int) (r : List Int) (w : World) (hr2 : Kd.C (Kd.int .i64) w A2 l2.length l2) (hc2 : l2.length ≤ c2) (h : fourier_transform.f k a0 a1 l2 = some r),
    Calls Try.prog 67 #[.int .i64 a0, .int .i64 a1, .slice A2 l2.length c2] w fun e w' => ∃ v0_ : Value, e = .returned (v0_) ∧ Kd.R (Kd.int .i64) 2 w' w.heap.size (fun _ => True) v0_ r ∧ Below w.heap.size w w' := by
  induction k using Nat.strongRecOn with
  | _ k ih =>
  intro a0 a1 A2 c2 l2 r w0_ hr2 hc2 h
  cases k with
  | zero => exact absurd h (by simp [fourier_transform.f])
  | succ k =>
  simp only [fourier_transform.f] at h
  by_cases c5 : ((l2.length : Int) % 2) > 0
  · rw [if_pos c5] at h
    by_cases cp : a0 = 0
    · rw [if_pos cp] at h
      exact absurd h (by simp)
    rw [if_neg cp] at h
    by_cases cl : l2.length ≤ 1000000
    rotate_left
    · rw [if_neg cl] at h
      exact absurd h (by simp)
    rw [if_pos cl] at h
    obtain rfl := Option.some.inj h
    exact fourier_transform.odd a0 a1 A2 c2 l2 w0_ hr2 hc2 c5 cp cl
  rw [if_neg c5] at h
  obtain ⟨l3, hl3⟩ : ∃ l3 : List Int, l3 = [a0] := ⟨_, rfl⟩
  rw [← hl3] at h
  have H := h
  clear h
  have c5b0 : decide (0 < ((l2.length : Int) % 2)) = false := decide_eq_false c5
  clear c5
  obtain ⟨ji6, hji6⟩ : ∃ j_ : Int, (wrap64 ((l2.length : Int) / 2)) = j_ := ⟨_, rfl⟩
  replace H : (if 0 ≤ (ji6) then (if (ji6 : Int).toNat ≤ 35184372088832 then (fourier_transform.l0 k a1 l2 l3 (l2.length : Int) (List.replicate 0 0) (List.replicate 0 0) 0) else (none)) else (none)) = some r := by first | (rw [hji6] at H; exact H) | (simp only [hji6] at H ⊢; exact H)
  have hji6w : (IntKind.i64.wrap ((l2.length : Int) / 2)) = ji6 := (i64_w _).trans hji6
  by_cases c7 : 0 ≤ (ji6)
  rotate_left
  · rw [if_neg c7] at H
    exact absurd H (by simp)
  rw [if_pos c7] at H
  have c7b0 := eq_true c7
  have c7b1 : decide (0 ≤ (ji6)) = true := decide_eq_true c7
  clear c7
  by_cases c8 : (ji6 : Int).toNat ≤ 35184372088832
  rotate_left
  · rw [if_neg c8] at H
    exact absurd H (by simp)
  rw [if_pos c8] at H
  have c8b0 := eq_true c8
  have c8b1 : decide ((ji6 : Int).toNat ≤ 35184372088832) = true := decide_eq_true c8
  clear c8
  obtain ⟨y108, hy108⟩ : ∃ y_ : List Int, y_ = (List.replicate 0 0) := ⟨_, rfl⟩
  replace H : (fourier_transform.l0 k a1 l2 l3 (l2.length : Int) y108 (List.replicate 0 0) 0) = some r := by first | (rw [hy108]; with_reducible exact H) | (have H2_ := (Option.bind_some _ _).symm.trans H; rw [hy108]; with_reducible exact H2_) | (have H2_ := (Option.bind_some _ _).symm.trans H; with_reducible exact H2_) | with_reducible exact H | (rw [hy108]; exact H) | exact H
  have Ny108 := Aside0.mk hy108
  clear hy108
  obtain ⟨y111, hy111⟩ : ∃ y_ : List Int, y_ = (List.replicate 0 0) := ⟨_, rfl⟩
  replace H : (fourier_transform.l0 k a1 l2 l3 (l2.length : Int) y108 y111 0) = some r := by first | (rw [hy111]; with_reducible exact H) | (have H2_ := (Option.bind_some _ _).symm.trans H; rw [hy111]; with_reducible exact H2_) | (have H2_ := (Option.bind_some _ _).symm.trans H; with_reducible exact H2_) | with_reducible exact H | (rw [hy111]; exact H) | exact H
  have Ny111 := Aside0.mk hy111
  clear hy111
  have H' := Aside0.mk H
  clear H
  go_enter Try.func67, Try.ntmps67
  try go_wp2
  have hB0 : Below w0_.heap.size w0_ (w0_.alloc (.cells #[.int .i64 a0] 2)) := (Below.refl _ _).alloc (Nat.le_refl _) _
  have hx0 : (w0_.alloc (.cells #[.int .i64 a0] 2)).cell? ⟨w0_.heap.size, 0, none⟩ = some (.int .i64 a0) := by
    simp
  obtain ⟨ad128, had⟩ : ∃ ad : Addr, ad = ⟨w0_.heap.size, 0, none⟩ := ⟨_, rfl⟩
  have hr2' := Kd.C_below hr2 hB0
  have hs0 : w0_.heap.size ≤ (w0_.alloc (.cells #[.int .i64 a0] 2)).heap.size := by simp
  rw [← had] at hx0 ⊢
  clear hr2
  generalize w0_.alloc (.cells #[.int .i64 a0] 2) = w at hB0 hx0 hr2' hs0 ⊢
  have hrd : rd l3 0 = a0 := by rw [hl3]; rfl
  rw [← hrd] at hx0
  have HX := Aside0.mk hx0
  have HB0 := Aside0.mk hB0
  have HS0 := Aside0.mk hs0
  have HR2 := Aside0.mk hr2'
  have HC2 := Aside0.mk hc2
  have HL3 := Aside0.mk hl3
  clear hr2' hc2 hx0 hB0 hs0 hrd had hl3
  have HB := Aside0.mk (Below.refl w.heap.size w)
  have n0_ := Aside0.mk (below_drew1 HB.out)
  clear HB
  have HB := n0_
  clear n0_
  refine start_ (n := 8) (S := fun w' => True) (ds := []) #[false, false, false, false, false, false, false, false] (by kernel_rfl) rfl rfl trivial (fun hHeld => ?_); refine with_tabW fourier_transform.tab14 fourier_transform.bits14 (fun HT_ HW_ => ?_)
  generalize w.drew = w9 at HB hHeld ⊢
  refine pure_ (i := 0) (N := some 58) (v := ?_) (a' := ?_) #[true, false, false, false, false, false, false, false] rfl rfl (any_of HT_.out (by kernel_rfl)) (fun _ _ _ h => h) (Or.inl ⟨by rfl, ?_⟩) ?_ ?_
  rotate_left
  · intro w'
    go_simp
    with_reducible rfl
  rotate_left
  · simp only [Act.put, List.setIfInBounds_toArray, List.set_cons_zero, List.set_cons_succ, i64_w, i32_w]
    rfl
  refine pure_ (i := 1) (N := some 59) (v := ?_) (a' := ?_) #[true, true, false, false, false, false, false, false] rfl rfl (any_of HT_.out (by kernel_rfl)) (fun _ _ _ h => h) (Or.inl ⟨by rfl, ?_⟩) ?_ ?_
  rotate_left
  · intro w'
    go_simp
    with_reducible rfl
  rotate_left
  · simp only [Act.put, List.setIfInBounds_toArray, List.set_cons_zero, List.set_cons_succ, i64_w, i32_w]
    rfl
  refine pure_ (i := 3) (N := some 61) (v := ?_) (a' := ?_) #[true, true, false, true, false, false, false, false] rfl rfl (any_of HT_.out (by kernel_rfl)) (fun _ _ _ h => h) (Or.inl ⟨by rfl, ?_⟩) ?_ ?_
  rotate_left
  · intro w'
    go_simp
    with_reducible rfl
  rotate_left
  · simp only [Act.put, List.setIfInBounds_toArray, List.set_cons_zero, List.set_cons_succ, i64_w, i32_w]
    rfl
  refine pure_ (i := 4) (N := some 62) (v := ?_) (a' := ?_) #[true, true, false, true, true, false, false, false] rfl rfl (any_of HT_.out (by kernel_rfl)) (fun _ _ _ h => h) (Or.inl ⟨by rfl, ?_⟩) ?_ ?_
  rotate_left
  · intro w'
    go_simp
    with_reducible rfl
  rotate_left
  · simp only [Act.put, List.setIfInBounds_toArray, List.set_cons_zero, List.set_cons_succ, i64_w, i32_w]
    rfl
  refine join_ (σ := Value × Value) 1 #[true, true, true, true, true, true, true, false] (fun s_ => [(60, s_.1), (63, s_.2), (13, s_.1)]) (fun s_ w' => (Kd.R (Kd.int .i64) 2 w' w.heap.size (fun k_ => some k_ ≠ (s_.2 : Value).ownBlock) s_.1 y108) ∧ (Kd.R (Kd.int .i64) 2 w' w.heap.size (fun k_ => some k_ ≠ (s_.1 : Value).ownBlock) s_.2 y111) ∧ (Below w.heap.size w w')) ?_ ?_
  rotate_left
  · intro hCont
    refine two_ (i := 2) (j := 5) (Ni := some 60) (Nj := some 63) #[true, true, true, true, true, false, false, false] #[true, true, false, true, true, true, false, false] rfl rfl rfl rfl (two_of HT_.out (by kernel_rfl)) (by decide) (by decide) (fun K hK => ?_) (fun K hK => ?_)
    · skip
      refine R_makec_step (Kd.int .i64) _ 2 (by rfl) (N := 60) rfl 23 _ _ rfl ji6 rfl rfl Try.underlying23 (.int .i64 0) 8 info2 rfl (by decide) (by omega) 0 (ok := fun _ => True) (okp := fun _ => True) rfl (fun _ hk => hk) trivial (of_decide_eq_true (by first | (with_reducible assumption) | assumption)) (Nat.le_trans (Nat.mul_le_mul_right _ (of_decide_eq_true (by first | (with_reducible assumption) | assumption) : ji6.toNat ≤ 35184372088832)) (by omega)) (Below.refl _ _) (Nat.le_refl _) ?_
      intro v109 w10 ho11 hb hg_ hnew_
      clear hg_ hnew_
      (first | rw [← Ny108.out] at ho11 | (simp only [Int.reduceToNat] at ho11; rw [← Ny108.out] at ho11))
      have n0_ := Aside0.mk (Kd.R_lower ho11 (below_size (by repeat (first | (with_reducible first | exact HB.out | apply below_alloc | apply pw_below_drewN | apply below_drew1) | exact HB.out))))
      have n1_ := Aside0.mk (below_step (by repeat (first | (with_reducible first | exact HB.out | apply below_alloc | apply pw_below_drewN | apply below_drew1) | exact HB.out)) hb)
      clear HB
      have HO110 := n0_
      have HB := n1_
      clear n0_ n1_
      clear hb ho11
      refine hK.out _ _ trivial (fun hHeld => ?_)
      clear hK K
      refine norm_ (a' := ?_) ?_ ?_
      rotate_left
      · show Act.put _ (some 60) _ = _
        simp only [Act.put, List.setIfInBounds_toArray, List.set_cons_zero, List.set_cons_succ, i64_w, i32_w]
        rfl
      refine pure_ (i := 6) (N := some 13) (v := ?_) (a' := ?_) #[true, true, true, true, true, false, true, false] rfl rfl (any_of HT_.out (by kernel_rfl)) (fun _ _ _ h => h) (Or.inl ⟨by rfl, ?_⟩) ?_ ?_
      rotate_left
      · intro w'
        go_simp
        with_reducible rfl
      rotate_left
      · simp only [Act.put, List.setIfInBounds_toArray, List.set_cons_zero, List.set_cons_succ, i64_w, i32_w]
        rfl
      refine one_ (i := 5) (N := some 63) #[true, true, true, true, true, true, true, false] rfl rfl (one_of HT_.out (by kernel_rfl)) (by decide) (fun K hK => ?_)
      refine R_makec_step (Kd.int .i64) _ 2 (by rfl) (N := 63) rfl 23 _ _ rfl ji6 rfl rfl Try.underlying23 (.int .i64 0) 8 info2 rfl (by decide) (by omega) 0 (ok := fun _ => True) (okp := fun _ => True) rfl (fun _ hk => hk) trivial (of_decide_eq_true (by first | (with_reducible assumption) | assumption)) (Nat.le_trans (Nat.mul_le_mul_right _ (of_decide_eq_true (by first | (with_reducible assumption) | assumption) : ji6.toNat ≤ 35184372088832)) (by omega)) (Below.refl _ _) (Nat.le_refl _) ?_
      intro v112 w12 ho13 hb hg_ hnew_
      clear hg_ hnew_
      (first | rw [← Ny111.out] at ho13 | (simp only [Int.reduceToNat] at ho13; rw [← Ny111.out] at ho13))
      have n0_ := Aside0.mk (Kd.R_elder' (by (with_reducible repeat (first | apply Kd.R_alloc | apply Kd.R_drewN | apply Kd.R_drew)); exact HO110.out) (Kd.R_base ho13) hb)
      have n1_ := Aside0.mk (Kd.R_lower (Kd.R_new' ho13 (Kd.R_lt (by (with_reducible repeat (first | apply Kd.R_alloc | apply Kd.R_drewN | apply Kd.R_drew)); exact HO110.out))) (below_size (by repeat (first | (with_reducible first | exact HB.out | apply below_alloc | apply pw_below_drewN | apply below_drew1) | exact HB.out))))
      have n2_ := Aside0.mk (below_step (by repeat (first | (with_reducible first | exact HB.out | apply below_alloc | apply pw_below_drewN | apply below_drew1) | exact HB.out)) hb)
      clear HO110
      clear HB
      have HO110 := n0_
      have HO113 := n1_
      have HB := n2_
      clear n0_ n1_ n2_
      clear hb ho13
      refine hK.out _ _ trivial (fun hHeld => ?_)
      clear hK K
      refine norm_ (a' := ?_) ?_ ?_
      rotate_left
      · show Act.put _ (some 63) _ = _
        simp only [Act.put, List.setIfInBounds_toArray, List.set_cons_zero, List.set_cons_succ, i64_w, i32_w]
        rfl
      exact norm_ (by simp only [putAll, Act.put, List.setIfInBounds_toArray, List.set_cons_zero, List.set_cons_succ]) (hCont (v109, v112) _ ⟨(by (with_reducible repeat (first | apply Kd.R_alloc | apply Kd.R_drewN | apply Kd.R_drew)); exact Kd.R_mono HO110.out (fun _ hk => hk.2)), (by (with_reducible repeat (first | apply Kd.R_alloc | apply Kd.R_drewN | apply Kd.R_drew)); exact Kd.R_mono HO113.out (fun _ hk => hk.2)), (by repeat (first | (with_reducible first | exact HB.out | apply below_alloc | apply pw_below_drewN | apply below_drew1) | exact HB.out))⟩)
    · skip
      refine R_makec_step (Kd.int .i64) _ 2 (by rfl) (N := 63) rfl 23 _ _ rfl ji6 rfl rfl Try.underlying23 (.int .i64 0) 8 info2 rfl (by decide) (by omega) 0 (ok := fun _ => True) (okp := fun _ => True) rfl (fun _ hk => hk) trivial (of_decide_eq_true (by first | (with_reducible assumption) | assumption)) (Nat.le_trans (Nat.mul_le_mul_right _ (of_decide_eq_true (by first | (with_reducible assumption) | assumption) : ji6.toNat ≤ 35184372088832)) (by omega)) (Below.refl _ _) (Nat.le_refl _) ?_
      intro v112 w10 ho11 hb hg_ hnew_
      clear hg_ hnew_
      (first | rw [← Ny111.out] at ho11 | (simp only [Int.reduceToNat] at ho11; rw [← Ny111.out] at ho11))
      have n0_ := Aside0.mk (Kd.R_lower ho11 (below_size (by repeat (first | (with_reducible first | exact HB.out | apply below_alloc | apply pw_below_drewN | apply below_drew1) | exact HB.out))))
      have n1_ := Aside0.mk (below_step (by repeat (first | (with_reducible first | exact HB.out | apply below_alloc | apply pw_below_drewN | apply below_drew1) | exact HB.out)) hb)
      clear HB
      have HO113 := n0_
      have HB := n1_
      clear n0_ n1_
      clear hb ho11
      refine hK.out _ _ trivial (fun hHeld => ?_)
      clear hK K
      refine norm_ (a' := ?_) ?_ ?_
      rotate_left
      · show Act.put _ (some 63) _ = _
        simp only [Act.put, List.setIfInBounds_toArray, List.set_cons_zero, List.set_cons_succ, i64_w, i32_w]
        rfl
      refine one_ (i := 2) (N := some 60) #[true, true, true, true, true, true, false, false] rfl rfl (one_of HT_.out (by kernel_rfl)) (by decide) (fun K hK => ?_)
      refine R_makec_step (Kd.int .i64) _ 2 (by rfl) (N := 60) rfl 23 _ _ rfl ji6 rfl rfl Try.underlying23 (.int .i64 0) 8 info2 rfl (by decide) (by omega) 0 (ok := fun _ => True) (okp := fun _ => True) rfl (fun _ hk => hk) trivial (of_decide_eq_true (by first | (with_reducible assumption) | assumption)) (Nat.le_trans (Nat.mul_le_mul_right _ (of_decide_eq_true (by first | (with_reducible assumption) | assumption) : ji6.toNat ≤ 35184372088832)) (by omega)) (Below.refl _ _) (Nat.le_refl _) ?_
      intro v109 w12 ho13 hb hg_ hnew_
      clear hg_ hnew_
      (first | rw [← Ny108.out] at ho13 | (simp only [Int.reduceToNat] at ho13; rw [← Ny108.out] at ho13))
      have n0_ := Aside0.mk (Kd.R_elder' (by (with_reducible repeat (first | apply Kd.R_alloc | apply Kd.R_drewN | apply Kd.R_drew)); exact HO113.out) (Kd.R_base ho13) hb)
      have n1_ := Aside0.mk (Kd.R_lower (Kd.R_new' ho13 (Kd.R_lt (by (with_reducible repeat (first | apply Kd.R_alloc | apply Kd.R_drewN | apply Kd.R_drew)); exact HO113.out))) (below_size (by repeat (first | (with_reducible first | exact HB.out | apply below_alloc | apply pw_below_drewN | apply below_drew1) | exact HB.out))))
      have n2_ := Aside0.mk (below_step (by repeat (first | (with_reducible first | exact HB.out | apply below_alloc | apply pw_below_drewN | apply below_drew1) | exact HB.out)) hb)
      clear HO113
      clear HB
      have HO113 := n0_
      have HO110 := n1_
      have HB := n2_
      clear n0_ n1_ n2_
      clear hb ho13
      refine hK.out _ _ trivial (fun hHeld => ?_)
      clear hK K
      refine norm_ (a' := ?_) ?_ ?_
      rotate_left
      · show Act.put _ (some 60) _ = _
        simp only [Act.put, List.setIfInBounds_toArray, List.set_cons_zero, List.set_cons_succ, i64_w, i32_w]
        rfl
      refine pure_ (i := 6) (N := some 13) (v := ?_) (a' := ?_) #[true, true, true, true, true, true, true, false] rfl rfl (any_of HT_.out (by kernel_rfl)) (fun _ _ _ h => h) (Or.inl ⟨by rfl, ?_⟩) ?_ ?_
      rotate_left
      · intro w'
        go_simp
        with_reducible rfl
      rotate_left
      · simp only [Act.put, List.setIfInBounds_toArray, List.set_cons_zero, List.set_cons_succ, i64_w, i32_w]
        rfl
      exact norm_ (by simp only [putAll, Act.put, List.setIfInBounds_toArray, List.set_cons_zero, List.set_cons_succ]) (hCont (v109, v112) _ ⟨(by (with_reducible repeat (first | apply Kd.R_alloc | apply Kd.R_drewN | apply Kd.R_drew)); exact Kd.R_mono HO110.out (fun _ hk => hk.2)), (by (with_reducible repeat (first | apply Kd.R_alloc | apply Kd.R_drewN | apply Kd.R_drew)); exact Kd.R_mono HO113.out (fun _ hk => hk.2)), (by repeat (first | (with_reducible first | exact HB.out | apply below_alloc | apply pw_below_drewN | apply below_drew1) | exact HB.out))⟩)
  rintro ⟨v109, v112⟩ w14 ⟨h0_, h1_, h2_⟩
  have n0_ : Aside0 (Kd.R (Kd.int .i64) 2 w14 w.heap.size (fun k_ => some k_ ≠ (v112 : Value).ownBlock) v109 y108) := ⟨h0_⟩
  have n1_ : Aside0 (Kd.R (Kd.int .i64) 2 w14 w.heap.size (fun k_ => some k_ ≠ (v109 : Value).ownBlock) v112 y111) := ⟨h1_⟩
  have n2_ : Aside0 (Below w.heap.size w w14) := ⟨h2_⟩
  clear HB
  clear h0_ h1_ h2_
  have HO110 := n0_
  have HO113 := n1_
  have HB := n2_
  clear n0_ n1_ n2_
  have hHeld := trivial
  refine norm_ (a' := ?_) ?_ ?_
  rotate_left
  · simp only [putAll, Act.put, List.setIfInBounds_toArray, List.set_cons_zero, List.set_cons_succ]
    rfl
  refine pure_ (i := 7) (N := some 14) (v := ?_) (a' := ?_) #[true, true, true, true, true, true, true, true] rfl rfl (any_of HT_.out (by kernel_rfl)) (fun _ _ _ h => h) (Or.inl ⟨by rfl, ?_⟩) ?_ ?_
  rotate_left
  · intro w'
    go_simp
    with_reducible rfl
  rotate_left
  · simp only [Act.put, List.setIfInBounds_toArray, List.set_cons_zero, List.set_cons_succ, i64_w, i32_w]
    rfl
  refine done_ (done_of HT_.out (by kernel_rfl)) ?_
  try go_wp2
  go_loopg [13, 14, 15] k (fun kq v13 v14 v15 w' => ∃ (x13_1 : List Int) (x14_1 : List Int) (x15_1 : Int), v15 = .int .i64 x15_1 ∧ Aside0 (fourier_transform.l0 kq a1 l2 l3 (l2.length : Int) x13_1 x14_1 x15_1 = some r) ∧ Aside0 (kq ≤ k) ∧ Aside0 (Kd.R (Kd.int .i64) 2 w' w.heap.size (fun k_ => some k_ ≠ (v14 : Value).ownBlock) v13 x13_1) ∧ Aside0 (Kd.R (Kd.int .i64) 2 w' w.heap.size (fun k_ => some k_ ≠ (v13 : Value).ownBlock) v14 x14_1) ∧ Aside0 (Below w.heap.size w w'))
  case atStart => exact ⟨(y108), (y111), (0), (by first | rfl | (simp; done) | (simp [*]; done)), H', ⟨Nat.le_refl _⟩, ⟨by (with_reducible repeat (first | apply Kd.R_alloc | apply Kd.R_drewN | apply Kd.R_drew)); exact HO110.out⟩, ⟨by (with_reducible repeat (first | apply Kd.R_alloc | apply Kd.R_drewN | apply Kd.R_drew)); exact HO113.out⟩, ⟨by repeat (first | (with_reducible first | exact HB.out | apply below_alloc | apply pw_below_drewN | apply below_drew1) | exact HB.out)⟩⟩
  case round =>
    clear H'
    try clear c2
    try clear p2
    try clear c3
    try clear c5
    try clear c5b0
    try clear p6
    try clear c7
    try clear c7b0
    try clear c7b1
    try clear c8
    try clear c8b0
    try clear c8b1
    obtain ⟨x13_1, x14_1, x15_1, rfl, HA, HK1, HO_13, HO_14, HB⟩ := hrel
    cases gk with
    | zero => exact absurd HA.out (by simp [fourier_transform.l0])
    | succ k1 =>
      have H := HA.out
      clear HA
      simp only [fourier_transform.l0] at H
      by_cases c15 : x15_1 < (l2.length : Int)
      rotate_left
      · rw [if_neg c15] at H
        have c15b0 : decide (x15_1 < (l2.length : Int)) = false := decide_eq_false c15
        clear c15
        by_cases c35 : 0 < (l3.length : Int)
        rotate_left
        · rw [if_neg c35] at H
          exact absurd H (by simp)
        rw [if_pos c35] at H
        have c35b0 : decide (0 < (l3.length : Int)) = true := decide_eq_true c35
        have c35b1 : decide (0 < l3.length) = true := decide_eq_true (by omega)
        clear c35
        by_cases c36 : (rd l3 0) = 0
        · rw [if_pos c36] at H
          exact absurd H (by simp)
        rw [if_neg c36] at H
        have c36b0 : ((rd l3 0) == 0) = false := beq_eq_false_iff_ne.mpr c36
        have c36b1 : ((rd l3 0) != 0) = true := bne_iff_ne.mpr c36
        replace H := Option.bind_eq_some_iff.mp H
        obtain ⟨t130, A370, H⟩ := H
        replace H : ((fourier_transform.f k1 (rd l3 0) (Int.tmod (wrap64 (a1 * a1)) (rd l3 0)) x14_1).bind fun t135 => (fourier_transform.fin l3 (l2.length : Int) a1 t130 t135)) = some r := H
        have A37 := Aside0.mk A370
        clear A370
        replace H := Option.bind_eq_some_iff.mp H
        obtain ⟨t135, A380, H⟩ := H
        replace H : (fourier_transform.fin l3 (l2.length : Int) a1 t130 t135) = some r := H
        have A38 := Aside0.mk A380
        clear A380
        simp only [fourier_transform.fin] at H
        by_cases cf : t130.length = t135.length ∧ (l2.length : Int) = 2 * (t130.length : Int) ∧ 1 ≤ t130.length ∧ 2 * t130.length ≤ 1000000
        rotate_left
        · rw [if_neg cf] at H
          exact absurd H (by simp)
        rw [if_pos cf] at H
        obtain rfl := Option.some.inj H
        have HF := Aside0.mk cf
        clear H cf
        try go_wp2
        have n0_ := Aside0.mk (Kd.R_drew HO_13.out)
        have n1_ := Aside0.mk (Kd.R_drew HO_14.out)
        have n2_ := Aside0.mk (below_drew1 HB.out)
        clear HO_13
        clear HO_14
        clear HB
        have HO_13 := n0_
        have HO_14 := n1_
        have HB := n2_
        clear n0_ n1_ n2_
        have p128 : 0 ≤ (0 : Int) := (by omega)
        have q128 : 0 < (l3.length : Int) := of_decide_eq_true (by first | (with_reducible assumption) | assumption)
        have hx128_0 := HX.out
        have hw128_0 := hx128_0
        (try rw [show ((0 : Int)).toNat = 0 from rfl] at hw128_0)
        (try rw [show 0 * 1 = 0 from rfl] at hw128_0)
        (try rw [Addr.add_zero'] at hw128_0)
        have qi128 : (0 < l3.length) = True := eq_true (by omega)
        (try rw [show ((0 : Int)).toNat = 0 from rfl] at hx128_0)
        (try rw [Addr.add_zero'] at hx128_0)
        replace hx128_0 := (HB.out.cell (World.block_lt_of_cell? w _ hx128_0)).trans hx128_0
        replace p128 := eq_true p128
        replace q128 := eq_true q128
        have p129 : 0 ≤ (0 : Int) := (by omega)
        have q129 : 0 < (l3.length : Int) := of_decide_eq_true (by first | (with_reducible assumption) | assumption)
        have hx129_0 := HX.out
        have hw129_0 := hx129_0
        (try rw [show ((0 : Int)).toNat = 0 from rfl] at hw129_0)
        (try rw [show 0 * 1 = 0 from rfl] at hw129_0)
        (try rw [Addr.add_zero'] at hw129_0)
        have qi129 : (0 < l3.length) = True := eq_true (by omega)
        (try rw [show ((0 : Int)).toNat = 0 from rfl] at hx129_0)
        (try rw [Addr.add_zero'] at hx129_0)
        replace hx129_0 := (HB.out.cell (World.block_lt_of_cell? w _ hx129_0)).trans hx129_0
        replace p129 := eq_true p129
        replace q129 := eq_true q129
        have p133 : 0 ≤ (0 : Int) := (by omega)
        have q133 : 0 < (l3.length : Int) := of_decide_eq_true (by first | (with_reducible assumption) | assumption)
        have hx133_0 := HX.out
        have hw133_0 := hx133_0
        (try rw [show ((0 : Int)).toNat = 0 from rfl] at hw133_0)
        (try rw [show 0 * 1 = 0 from rfl] at hw133_0)
        (try rw [Addr.add_zero'] at hw133_0)
        have qi133 : (0 < l3.length) = True := eq_true (by omega)
        (try rw [show ((0 : Int)).toNat = 0 from rfl] at hx133_0)
        (try rw [Addr.add_zero'] at hx133_0)
        replace hx133_0 := (HB.out.cell (World.block_lt_of_cell? w _ hx133_0)).trans hx133_0
        replace p133 := eq_true p133
        replace q133 := eq_true q133
        have p134 : 0 ≤ (0 : Int) := (by omega)
        have q134 : 0 < (l3.length : Int) := of_decide_eq_true (by first | (with_reducible assumption) | assumption)
        have hx134_0 := HX.out
        have hw134_0 := hx134_0
        (try rw [show ((0 : Int)).toNat = 0 from rfl] at hw134_0)
        (try rw [show 0 * 1 = 0 from rfl] at hw134_0)
        (try rw [Addr.add_zero'] at hw134_0)
        have qi134 : (0 < l3.length) = True := eq_true (by omega)
        (try rw [show ((0 : Int)).toNat = 0 from rfl] at hx134_0)
        (try rw [Addr.add_zero'] at hx134_0)
        replace hx134_0 := (HB.out.cell (World.block_lt_of_cell? w _ hx134_0)).trans hx134_0
        replace p134 := eq_true p134
        replace q134 := eq_true q134
        obtain ⟨Ao42, co42, eo42⟩ := Kd.R_slice HO_13.out
        (first | subst eo42 | (injection eo42 with f1_ f2_ f3_; have f4_ := f1_.symm; have f5_ := f3_.symm; clear f1_ f2_ f3_; subst f4_; subst f5_))
        refine start_ (n := 18) (S := fun w' => w'.cell? ad128 = some (.int .i64 (rd l3 0)) ∧ w'.cell? ad128 = some (.int .i64 (rd l3 0)) ∧ w'.cell? ad128 = some (.int .i64 (rd l3 0)) ∧ w'.cell? ad128 = some (.int .i64 (rd l3 0))) (ds := []) #[false, false, false, false, false, false, false, false, false, false, false, false, false, false, false, false, false, false] (by kernel_rfl) rfl rfl ⟨((HB.out.cell (World.block_lt_of_cell? w _ hw128_0)).trans hw128_0), ((HB.out.cell (World.block_lt_of_cell? w _ hw129_0)).trans hw129_0), ((HB.out.cell (World.block_lt_of_cell? w _ hw133_0)).trans hw133_0), ((HB.out.cell (World.block_lt_of_cell? w _ hw134_0)).trans hw134_0)⟩ (fun hHeld => ?_); refine with_tabW fourier_transform.tab19 fourier_transform.bits19 (fun HT_ HW_ => ?_)
        generalize wr.drew = w41 at HO_13 HO_14 HB hx128_0 hx129_0 hx133_0 hx134_0 hHeld ⊢
        refine pure_ (i := 1) (N := some 85) (v := ?_) (a' := ?_) #[false, true, false, false, false, false, false, false, false, false, false, false, false, false, false, false, false, false] rfl rfl (any_of HT_.out (by kernel_rfl)) (fun _ _ _ h => h) (Or.inl ⟨by rfl, ?_⟩) ?_ ?_
        rotate_left
        · intro w'
          go_simp
          with_reducible rfl
        rotate_left
        · simp only [Act.put, List.setIfInBounds_toArray, List.set_cons_zero, List.set_cons_succ, i64_w, i32_w]
          rfl
        refine pure_ (i := 2) (N := some 86) (v := ?_) (a' := ?_) #[false, true, true, false, false, false, false, false, false, false, false, false, false, false, false, false, false, false] rfl rfl (any_of HT_.out (by kernel_rfl)) (fun _ _ _ h => h) (Or.inl ⟨by rfl, ?_⟩) ?_ ?_
        rotate_left
        · intro w'
          go_simp
          with_reducible rfl
        rotate_left
        · simp only [Act.put, List.setIfInBounds_toArray, List.set_cons_zero, List.set_cons_succ, i64_w, i32_w]
          rfl
        refine pure_ (i := 3) (N := some 87) (v := ?_) (a' := ?_) #[false, true, true, true, false, false, false, false, false, false, false, false, false, false, false, false, false, false] rfl rfl (any_of HT_.out (by kernel_rfl)) (fun _ _ _ h => h) (Or.inl ⟨by rfl, ?_⟩) ?_ ?_
        rotate_left
        · intro w'
          go_simp
          with_reducible rfl
        rotate_left
        · simp only [Act.put, List.setIfInBounds_toArray, List.set_cons_zero, List.set_cons_succ, i64_w, i32_w]
          rfl
        refine pure_ (i := 6) (N := some 90) (v := ?_) (a' := ?_) #[false, true, true, true, false, false, true, false, false, false, false, false, false, false, false, false, false, false] rfl rfl (any_of HT_.out (by kernel_rfl)) (fun _ _ _ h => h) (Or.inl ⟨by rfl, ?_⟩) ?_ ?_
        rotate_left
        · intro w'
          go_simp
          with_reducible rfl
        rotate_left
        · simp only [Act.put, List.setIfInBounds_toArray, List.set_cons_zero, List.set_cons_succ, i64_w, i32_w]
          rfl
        refine pure_ (i := 9) (N := some 93) (v := ?_) (a' := ?_) #[false, true, true, true, false, false, true, false, false, true, false, false, false, false, false, false, false, false] rfl rfl (any_of HT_.out (by kernel_rfl)) (fun _ _ _ h => h) (Or.inl ⟨by rfl, ?_⟩) ?_ ?_
        rotate_left
        · intro w'
          go_simp
          with_reducible rfl
        rotate_left
        · simp only [Act.put, List.setIfInBounds_toArray, List.set_cons_zero, List.set_cons_succ, i64_w, i32_w]
          rfl
        refine pure_ (i := 10) (N := some 94) (v := ?_) (a' := ?_) #[false, true, true, true, false, false, true, false, false, true, true, false, false, false, false, false, false, false] rfl rfl (any_of HT_.out (by kernel_rfl)) (fun _ _ _ h => h) (Or.inl ⟨by rfl, ?_⟩) ?_ ?_
        rotate_left
        · intro w'
          go_simp
          with_reducible rfl
        rotate_left
        · simp only [Act.put, List.setIfInBounds_toArray, List.set_cons_zero, List.set_cons_succ, i64_w, i32_w]
          rfl
        refine pure_ (i := 11) (N := some 95) (v := ?_) (a' := ?_) #[false, true, true, true, false, false, true, false, false, true, true, true, false, false, false, false, false, false] rfl rfl (any_of HT_.out (by kernel_rfl)) (fun _ _ _ h => h) (Or.inl ⟨by rfl, ?_⟩) ?_ ?_
        rotate_left
        · intro w'
          go_simp
          with_reducible rfl
        rotate_left
        · simp only [Act.put, List.setIfInBounds_toArray, List.set_cons_zero, List.set_cons_succ, i64_w, i32_w]
          rfl
        refine pure_ (i := 14) (N := some 98) (v := ?_) (a' := ?_) #[false, true, true, true, false, false, true, false, false, true, true, true, false, false, true, false, false, false] rfl rfl (any_of HT_.out (by kernel_rfl)) (fun _ _ _ h => h) (Or.inl ⟨by rfl, ?_⟩) ?_ ?_
        rotate_left
        · intro w'
          go_simp
          with_reducible rfl
        rotate_left
        · simp only [Act.put, List.setIfInBounds_toArray, List.set_cons_zero, List.set_cons_succ, i64_w, i32_w]
          rfl
        refine take_ (i := 0) (N := some 84) (v := ?_) (a' := ?_) #[true, true, true, true, false, false, true, false, false, true, true, true, false, false, true, false, false, false] rfl rfl (take_ofW HT_.out HW_.out (by kernel_rfl)) (fun _ _ _ h => h) (Or.inl ⟨by rfl, ?_⟩) hHeld ?_ ?_
        rotate_left
        · rintro w' ⟨s0, s1, s2, s3⟩
          go_simp
          with_reducible rfl
        rotate_left
        · simp only [Act.put, List.setIfInBounds_toArray, List.set_cons_zero, List.set_cons_succ, i64_w, i32_w]
          rfl
        refine take_ (i := 4) (N := some 88) (v := ?_) (a' := ?_) #[true, true, true, true, true, false, true, false, false, true, true, true, false, false, true, false, false, false] rfl rfl (take_ofW HT_.out HW_.out (by kernel_rfl)) (fun _ _ _ h => h) (Or.inl ⟨by rfl, ?_⟩) hHeld ?_ ?_
        rotate_left
        · rintro w' ⟨s0, s1, s2, s3⟩
          go_simp
          with_reducible rfl
        rotate_left
        · simp only [Act.put, List.setIfInBounds_toArray, List.set_cons_zero, List.set_cons_succ, i64_w, i32_w]
          rfl
        refine pure_ (i := 5) (N := some 89) (v := ?_) (a' := ?_) #[true, true, true, true, true, true, true, false, false, true, true, true, false, false, true, false, false, false] rfl rfl (any_of HT_.out (by kernel_rfl)) (fun _ _ _ h => h) (Or.inl ⟨by rfl, ?_⟩) ?_ ?_
        rotate_left
        · intro w'
          go_simp
          with_reducible rfl
        rotate_left
        · simp only [Act.put, List.setIfInBounds_toArray, List.set_cons_zero, List.set_cons_succ, i64_w, i32_w]
          rfl
        refine take_ (i := 8) (N := some 92) (v := ?_) (a' := ?_) #[true, true, true, true, true, true, true, false, true, true, true, true, false, false, true, false, false, false] rfl rfl (take_ofW HT_.out HW_.out (by kernel_rfl)) (fun _ _ _ h => h) (Or.inl ⟨by rfl, ?_⟩) hHeld ?_ ?_
        rotate_left
        · rintro w' ⟨s0, s1, s2, s3⟩
          go_simp
          with_reducible rfl
        rotate_left
        · simp only [Act.put, List.setIfInBounds_toArray, List.set_cons_zero, List.set_cons_succ, i64_w, i32_w]
          rfl
        refine take_ (i := 12) (N := some 96) (v := ?_) (a' := ?_) #[true, true, true, true, true, true, true, false, true, true, true, true, true, false, true, false, false, false] rfl rfl (take_ofW HT_.out HW_.out (by kernel_rfl)) (fun _ _ _ h => h) (Or.inl ⟨by rfl, ?_⟩) hHeld ?_ ?_
        rotate_left
        · rintro w' ⟨s0, s1, s2, s3⟩
          go_simp
          with_reducible rfl
        rotate_left
        · simp only [Act.put, List.setIfInBounds_toArray, List.set_cons_zero, List.set_cons_succ, i64_w, i32_w]
          rfl
        refine pure_ (i := 13) (N := some 97) (v := ?_) (a' := ?_) #[true, true, true, true, true, true, true, false, true, true, true, true, true, true, true, false, false, false] rfl rfl (any_of HT_.out (by kernel_rfl)) (fun _ _ _ h => h) (Or.inl ⟨by rfl, ?_⟩) ?_ ?_
        rotate_left
        · intro w'
          go_simp
          with_reducible rfl
        rotate_left
        · simp only [Act.put, List.setIfInBounds_toArray, List.set_cons_zero, List.set_cons_succ, i64_w, i32_w]
          rfl
        refine one_ (i := 7) (N := some 91) #[true, true, true, true, true, true, true, true, true, true, true, true, true, true, true, false, false, false] rfl rfl (one_of HT_.out (by kernel_rfl)) (by decide) (fun K hK => ?_)
        refine goes_ Try.func67 (by kernel_rfl) rfl #[.int .i64 (rd l3 0), .int .i64 (Int.tmod (wrap64 (a1 * a1)) (rd l3 0)), .slice Ao42 x13_1.length co42] (by rfl) rfl rfl (by (try simp only [List.map_toArray, List.map_cons, List.map_nil]); first | done | rfl | (simp only [List.length_drop, List.length_take]; rfl)) ?_
        with_reducible refine (ih k1 (by have := HK1.out; omega) (rd l3 0) (Int.tmod (wrap64 (a1 * a1)) (rd l3 0)) _ _ x13_1 t130 _ ?side1 ?side2 A37.out).mono ?_
        (case side1 => repeat (first | exact (Kd.R_reads' HO_13.out).2.2 | (with_reducible refine Kd.C_alloc ?_ _) | (with_reducible refine Kd.C_drewN ?_ _) | (with_reducible refine Kd.C_drew ?_)))
        (case side2 => exact (Kd.R_reads' HO_13.out).2.1)
        rintro e w43 ⟨v131, rfl, ho0, hb⟩
        refine ⟨_, rfl, ?_⟩
        have n0_ := Aside0.mk (Kd.R_elder' (by (with_reducible repeat (first | apply Kd.R_alloc | apply Kd.R_drewN | apply Kd.R_drew)); exact HO_13.out) (Kd.R_base ho0) hb)
        have n1_ := Aside0.mk (Kd.R_elder' (by (with_reducible repeat (first | apply Kd.R_alloc | apply Kd.R_drewN | apply Kd.R_drew)); exact HO_14.out) (Kd.R_base ho0) hb)
        have n2_ := Aside0.mk (Kd.R_lower (Kd.R_new' (Kd.R_new' ho0 (Kd.R_lt (by (with_reducible repeat (first | apply Kd.R_alloc | apply Kd.R_drewN | apply Kd.R_drew)); exact HO_13.out))) (Kd.R_lt (by (with_reducible repeat (first | apply Kd.R_alloc | apply Kd.R_drewN | apply Kd.R_drew)); exact HO_14.out))) (below_size (by repeat (first | (with_reducible first | exact HB.out | apply below_alloc | apply pw_below_drewN | apply below_drew1) | exact HB.out))))
        have n3_ := Aside0.mk (below_step (by repeat (first | (with_reducible first | exact HB.out | apply below_alloc | apply pw_below_drewN | apply below_drew1) | exact HB.out)) hb)
        clear HO_13
        clear HO_14
        clear HB
        have HO_13 := n0_
        have HO_14 := n1_
        have HO132 := n2_
        have HB := n3_
        clear n0_ n1_ n2_ n3_
        (try clear hb)
        (try clear hb2)
        (try clear hk)
        (try clear hi)
        (try clear ho0)
        obtain ⟨Ao44, co44, eo44⟩ := Kd.R_slice HO_14.out
        (first | subst eo44 | (injection eo44 with f1_ f2_ f3_; have f4_ := f1_.symm; have f5_ := f3_.symm; clear f1_ f2_ f3_; subst f4_; subst f5_))
        refine hK.out _ _ ⟨((HB.out.cell (World.block_lt_of_cell? w _ hw128_0)).trans hw128_0), ((HB.out.cell (World.block_lt_of_cell? w _ hw129_0)).trans hw129_0), ((HB.out.cell (World.block_lt_of_cell? w _ hw133_0)).trans hw133_0), ((HB.out.cell (World.block_lt_of_cell? w _ hw134_0)).trans hw134_0)⟩ (fun hHeld => ?_)
        clear hK K
        refine norm_ (a' := ?_) ?_ ?_
        rotate_left
        · show Act.put _ (some 91) _ = _
          simp only [Act.put, List.setIfInBounds_toArray, List.set_cons_zero, List.set_cons_succ, i64_w, i32_w]
          rfl
        refine one_ (i := 15) (N := some 99) #[true, true, true, true, true, true, true, true, true, true, true, true, true, true, true, true, false, false] rfl rfl (one_of HT_.out (by kernel_rfl)) (by decide) (fun K hK => ?_)
        refine goes_ Try.func67 (by kernel_rfl) rfl #[.int .i64 (rd l3 0), .int .i64 (Int.tmod (wrap64 (a1 * a1)) (rd l3 0)), .slice Ao44 x14_1.length co44] (by rfl) rfl rfl (by (try simp only [List.map_toArray, List.map_cons, List.map_nil]); first | done | rfl | (simp only [List.length_drop, List.length_take]; rfl)) ?_
        with_reducible refine (ih k1 (by have := HK1.out; omega) (rd l3 0) (Int.tmod (wrap64 (a1 * a1)) (rd l3 0)) _ _ x14_1 t135 _ ?side1 ?side2 A38.out).mono ?_
        (case side1 => repeat (first | exact (Kd.R_reads' HO_14.out).2.2 | (with_reducible refine Kd.C_alloc ?_ _) | (with_reducible refine Kd.C_drewN ?_ _) | (with_reducible refine Kd.C_drew ?_)))
        (case side2 => exact (Kd.R_reads' HO_14.out).2.1)
        rintro e w45 ⟨v136, rfl, ho0, hb⟩
        refine ⟨_, rfl, ?_⟩
        have n0_ := Aside0.mk (Kd.R_elder' (by (with_reducible repeat (first | apply Kd.R_alloc | apply Kd.R_drewN | apply Kd.R_drew)); exact HO_13.out) (Kd.R_base ho0) hb)
        have n1_ := Aside0.mk (Kd.R_elder' (by (with_reducible repeat (first | apply Kd.R_alloc | apply Kd.R_drewN | apply Kd.R_drew)); exact HO_14.out) (Kd.R_base ho0) hb)
        have n2_ := Aside0.mk (Kd.R_elder' (by (with_reducible repeat (first | apply Kd.R_alloc | apply Kd.R_drewN | apply Kd.R_drew)); exact HO132.out) (Kd.R_base ho0) hb)
        have n3_ := Aside0.mk (Kd.R_lower (Kd.R_new' (Kd.R_new' (Kd.R_new' ho0 (Kd.R_lt (by (with_reducible repeat (first | apply Kd.R_alloc | apply Kd.R_drewN | apply Kd.R_drew)); exact HO_13.out))) (Kd.R_lt (by (with_reducible repeat (first | apply Kd.R_alloc | apply Kd.R_drewN | apply Kd.R_drew)); exact HO_14.out))) (Kd.R_lt (by (with_reducible repeat (first | apply Kd.R_alloc | apply Kd.R_drewN | apply Kd.R_drew)); exact HO132.out))) (below_size (by repeat (first | (with_reducible first | exact HB.out | apply below_alloc | apply pw_below_drewN | apply below_drew1) | exact HB.out))))
        have n4_ := Aside0.mk (below_step (by repeat (first | (with_reducible first | exact HB.out | apply below_alloc | apply pw_below_drewN | apply below_drew1) | exact HB.out)) hb)
        clear HO_13
        clear HO_14
        clear HO132
        clear HB
        have HO_13 := n0_
        have HO_14 := n1_
        have HO132 := n2_
        have HO137 := n3_
        have HB := n4_
        clear n0_ n1_ n2_ n3_ n4_
        (try clear hb)
        (try clear hb2)
        (try clear hk)
        (try clear hi)
        (try clear ho0)
        refine hK.out _ _ ⟨((HB.out.cell (World.block_lt_of_cell? w _ hw128_0)).trans hw128_0), ((HB.out.cell (World.block_lt_of_cell? w _ hw129_0)).trans hw129_0), ((HB.out.cell (World.block_lt_of_cell? w _ hw133_0)).trans hw133_0), ((HB.out.cell (World.block_lt_of_cell? w _ hw134_0)).trans hw134_0)⟩ (fun hHeld => ?_)
        clear hK K
        refine norm_ (a' := ?_) ?_ ?_
        rotate_left
        · show Act.put _ (some 99) _ = _
          simp only [Act.put, List.setIfInBounds_toArray, List.set_cons_zero, List.set_cons_succ, i64_w, i32_w]
          rfl
        refine pure_ (i := 16) (N := some 16) (v := ?_) (a' := ?_) #[true, true, true, true, true, true, true, true, true, true, true, true, true, true, true, true, true, false] rfl rfl (any_of HT_.out (by kernel_rfl)) (fun _ _ _ h => h) (Or.inl ⟨by rfl, ?_⟩) ?_ ?_
        rotate_left
        · intro w'
          go_simp
          with_reducible rfl
        rotate_left
        · simp only [Act.put, List.setIfInBounds_toArray, List.set_cons_zero, List.set_cons_succ, i64_w, i32_w]
          rfl
        refine pure_ (i := 17) (N := some 17) (v := ?_) (a' := ?_) #[true, true, true, true, true, true, true, true, true, true, true, true, true, true, true, true, true, true] rfl rfl (any_of HT_.out (by kernel_rfl)) (fun _ _ _ h => h) (Or.inl ⟨by rfl, ?_⟩) ?_ ?_
        rotate_left
        · intro w'
          go_simp
          with_reducible rfl
        rotate_left
        · simp only [Act.put, List.setIfInBounds_toArray, List.set_cons_zero, List.set_cons_succ, i64_w, i32_w]
          rfl
        refine done_ (done_of HT_.out (by kernel_rfl)) ?_
        obtain ⟨Ao48, co48, eo48⟩ := Kd.R_slice HO132.out
        subst eo48
        obtain ⟨Ao49, co49, eo49⟩ := Kd.R_slice HO137.out
        subst eo49
        refine (?f : ∀ (a_ : Act) (w_ : World), Code.wp Try.prog _ _ a_ w_ → Exit.then _ _ Exit.normal a_ w_) _ _ ?_
        (case f => assumption)
        with_reducible refine fourier_transform.tail (rd l3 0) a1 l2.length t130.length (by have := HF.out; omega) t130 t135 _ _ _ _ _ _ ?h1 ?h2 ?h3 ?h4 rfl ?h5 ?h6 ?h7 _ ?hC _ ?hQ
        case hC => kernel_rfl
        case h1 => exact (Kd.R_reads' (Kd.R_drew HO132.out)).2.2
        case h2 => exact (Kd.R_reads' (Kd.R_drew HO137.out)).2.2
        case h3 => exact (HB.out.cell (World.block_lt_of_cell? w _ HX.out)).trans HX.out
        case h4 => assumption
        case h5 => have := HF.out; omega
        case h6 => have := HF.out; omega
        case h7 => have := HF.out; omega
        case hQ =>
          intro v0_ w' hv hb
          have hl_ : w0_.heap.size ≤ _ := Nat.le_trans HS0.out HB.out.size
          exact ⟨_, rfl, Kd.R_lower hv hl_, (HB0.out.trans (HB.out.mono HS0.out)).trans (hb.mono hl_)⟩
      rw [if_pos c15] at H
      have c15b0 : decide (x15_1 < (l2.length : Int)) = true := decide_eq_true c15
      clear c15
      by_cases c16 : 0 ≤ x15_1
      rotate_left
      · rw [if_neg c16] at H
        exact absurd H (by simp)
      rw [if_pos c16] at H
      have c16b0 : decide (0 ≤ x15_1) = true := decide_eq_true c16
      clear c16
      by_cases c17 : x15_1 < (l2.length : Int)
      rotate_left
      · rw [if_neg c17] at H
        exact absurd H (by simp)
      rw [if_pos c17] at H
      have c17b0 : decide (x15_1 < (l2.length : Int)) = true := decide_eq_true c17
      clear c17
      obtain ⟨y115, hy115⟩ : ∃ y_ : List Int, y_ = (([rd l2 x15_1] : List Int)) := ⟨_, rfl⟩
      replace H : (if x13_1.length + y115.length < 17592186044416 then (if 0 ≤ (wrap64 (x15_1 + 1)) then (if (wrap64 (x15_1 + 1)) < (l2.length : Int) then ((some (([rd l2 (wrap64 (x15_1 + 1))] : List Int) : List Int)).bind fun y122 => (if x14_1.length + y122.length < 17592186044416 then (fourier_transform.l0 k1 a1 l2 l3 (l2.length : Int) (x13_1 ++ y115) (x14_1 ++ y122) (wrap64 (x15_1 + 2))) else (none))) else (none)) else (none)) else (none)) = some r := by first | (rw [hy115]; with_reducible exact H) | (have H2_ := (Option.bind_some _ _).symm.trans H; rw [hy115]; with_reducible exact H2_) | (have H2_ := (Option.bind_some _ _).symm.trans H; with_reducible exact H2_) | with_reducible exact H | (rw [hy115]; exact H) | exact H
      have Ny115 := Aside0.mk hy115
      clear hy115
      by_cases c18 : x13_1.length + y115.length < 17592186044416
      rotate_left
      · rw [if_neg c18] at H
        exact absurd H (by simp)
      rw [if_pos c18] at H
      have LMc18 := Aside0.mk c18
      clear c18
      obtain ⟨y118, hy118⟩ : ∃ y_ : List Int, y_ = (x13_1 ++ y115) := ⟨_, rfl⟩
      replace H : (if 0 ≤ (wrap64 (x15_1 + 1)) then (if (wrap64 (x15_1 + 1)) < (l2.length : Int) then ((some (([rd l2 (wrap64 (x15_1 + 1))] : List Int) : List Int)).bind fun y122 => (if x14_1.length + y122.length < 17592186044416 then (fourier_transform.l0 k1 a1 l2 l3 (l2.length : Int) y118 (x14_1 ++ y122) (wrap64 (x15_1 + 2))) else (none))) else (none)) else (none)) = some r := by first | (rw [hy118]; with_reducible exact H) | (have H2_ := (Option.bind_some _ _).symm.trans H; rw [hy118]; with_reducible exact H2_) | (have H2_ := (Option.bind_some _ _).symm.trans H; with_reducible exact H2_) | with_reducible exact H | (rw [hy118]; exact H) | exact H
      have Ny118 := Aside0.mk hy118
      clear hy118
      obtain ⟨ji19, hji19⟩ : ∃ j_ : Int, (wrap64 (x15_1 + 1)) = j_ := ⟨_, rfl⟩
      replace H : (if 0 ≤ (ji19) then (if (ji19) < (l2.length : Int) then ((some (([rd l2 (ji19)] : List Int) : List Int)).bind fun y122 => (if x14_1.length + y122.length < 17592186044416 then (fourier_transform.l0 k1 a1 l2 l3 (l2.length : Int) y118 (x14_1 ++ y122) (wrap64 (x15_1 + 2))) else (none))) else (none)) else (none)) = some r := by first | (rw [hji19] at H; exact H) | (simp only [hji19] at H ⊢; exact H)
      have hji19w : (IntKind.i64.wrap (x15_1 + 1)) = ji19 := (i64_w _).trans hji19
      by_cases c20 : 0 ≤ (ji19)
      rotate_left
      · rw [if_neg c20] at H
        exact absurd H (by simp)
      rw [if_pos c20] at H
      have c20b0 : decide (0 ≤ (ji19)) = true := decide_eq_true c20
      clear c20
      by_cases c21 : (ji19) < (l2.length : Int)
      rotate_left
      · rw [if_neg c21] at H
        exact absurd H (by simp)
      rw [if_pos c21] at H
      have c21b0 : decide ((ji19) < (l2.length : Int)) = true := decide_eq_true c21
      clear c21
      obtain ⟨y122, hy122⟩ : ∃ y_ : List Int, y_ = (([rd l2 (ji19)] : List Int)) := ⟨_, rfl⟩
      replace H : (if x14_1.length + y122.length < 17592186044416 then (fourier_transform.l0 k1 a1 l2 l3 (l2.length : Int) y118 (x14_1 ++ y122) (wrap64 (x15_1 + 2))) else (none)) = some r := by first | (rw [hy122]; with_reducible exact H) | (have H2_ := (Option.bind_some _ _).symm.trans H; rw [hy122]; with_reducible exact H2_) | (have H2_ := (Option.bind_some _ _).symm.trans H; with_reducible exact H2_) | with_reducible exact H | (rw [hy122]; exact H) | exact H
      have Ny122 := Aside0.mk hy122
      clear hy122
      by_cases c22 : x14_1.length + y122.length < 17592186044416
      rotate_left
      · rw [if_neg c22] at H
        exact absurd H (by simp)
      rw [if_pos c22] at H
      have LMc22 := Aside0.mk c22
      clear c22
      obtain ⟨y125, hy125⟩ : ∃ y_ : List Int, y_ = (x14_1 ++ y122) := ⟨_, rfl⟩
      replace H : (fourier_transform.l0 k1 a1 l2 l3 (l2.length : Int) y118 y125 (wrap64 (x15_1 + 2))) = some r := by first | (rw [hy125]; with_reducible exact H) | (have H2_ := (Option.bind_some _ _).symm.trans H; rw [hy125]; with_reducible exact H2_) | (have H2_ := (Option.bind_some _ _).symm.trans H; with_reducible exact H2_) | with_reducible exact H | (rw [hy125]; exact H) | exact H
      have Ny125 := Aside0.mk hy125
      clear hy125
      have H' := Aside0.mk H
      clear H
      obtain ⟨Ao23, co23, eo23⟩ := Kd.R_slice HO_13.out
      subst eo23
      obtain ⟨Ao24, co24, eo24⟩ := Kd.R_slice HO_14.out
      subst eo24
      try go_wp2
      have n0_ := Aside0.mk (Kd.R_drew HO_13.out)
      have n1_ := Aside0.mk (Kd.R_drew HO_14.out)
      have n2_ := Aside0.mk (below_drew1 HB.out)
      clear HO_13
      clear HO_14
      clear HB
      have HO_13 := n0_
      have HO_14 := n1_
      have HB := n2_
      clear n0_ n1_ n2_
      have p114 : 0 ≤ (x15_1 : Int) := of_decide_eq_true (by first | (with_reducible assumption) | assumption)
      have q114 : x15_1 < (l2.length : Int) := of_decide_eq_true (by first | (with_reducible assumption) | assumption)
      obtain ⟨ad114, e114, hx114_0⟩ := Kd.at_int HR2.out x15_1 p114 q114
      have hw114_0 := hx114_0
      cases e114
      replace hx114_0 := (HB.out.cell (World.block_lt_of_cell? w _ hx114_0)).trans hx114_0
      replace p114 := eq_true p114
      replace q114 := eq_true q114
      have p121 : 0 ≤ ((ji19) : Int) := of_decide_eq_true (by first | (with_reducible assumption) | assumption)
      have q121 : (ji19) < (l2.length : Int) := of_decide_eq_true (by first | (with_reducible assumption) | assumption)
      obtain ⟨ad121, e121, hx121_0⟩ := Kd.at_int HR2.out (ji19) p121 q121
      have hw121_0 := hx121_0
      obtain rfl : ad114 = ad121 := (by injection e121)
      replace hx121_0 := (HB.out.cell (World.block_lt_of_cell? w _ hx121_0)).trans hx121_0
      replace p121 := eq_true p121
      replace q121 := eq_true q121
      refine start_ (n := 17) (S := fun w' => w'.cell? (ad114.add (x15_1).toNat) = some (.int .i64 (rd l2 x15_1)) ∧ w'.cell? (ad114.add ((ji19)).toNat) = some (.int .i64 (rd l2 (ji19)))) (ds := []) #[false, false, false, false, false, false, false, false, false, false, false, false, false, false, false, false, false] (by kernel_rfl) rfl rfl ⟨((HB.out.cell (World.block_lt_of_cell? w _ hw114_0)).trans hw114_0), ((HB.out.cell (World.block_lt_of_cell? w _ hw121_0)).trans hw121_0)⟩ (fun hHeld => ?_); refine with_tabW fourier_transform.tab18 fourier_transform.bits18 (fun HT_ HW_ => ?_)
      generalize wr.drew = w25 at HO_13 HO_14 HB hx114_0 hx121_0 hHeld ⊢
      refine pure_ (i := 0) (N := some 69) (v := ?_) (a' := ?_) #[true, false, false, false, false, false, false, false, false, false, false, false, false, false, false, false, false] rfl rfl (any_of HT_.out (by kernel_rfl)) (fun _ _ _ h => h) (Or.inl ⟨by rfl, ?_⟩) ?_ ?_
      rotate_left
      · intro w'
        go_simp
        with_reducible rfl
      rotate_left
      · simp only [Act.put, List.setIfInBounds_toArray, List.set_cons_zero, List.set_cons_succ, i64_w, i32_w]
        rfl
      refine pure_ (i := 1) (N := some 70) (v := ?_) (a' := ?_) #[true, true, false, false, false, false, false, false, false, false, false, false, false, false, false, false, false] rfl rfl (any_of HT_.out (by kernel_rfl)) (fun _ _ _ h => h) (Or.inl ⟨by rfl, ?_⟩) ?_ ?_
      rotate_left
      · intro w'
        go_simp
        with_reducible rfl
      rotate_left
      · simp only [Act.put, List.setIfInBounds_toArray, List.set_cons_zero, List.set_cons_succ, i64_w, i32_w]
        rfl
      refine pure_ (i := 2) (N := some 71) (v := ?_) (a' := ?_) #[true, true, true, false, false, false, false, false, false, false, false, false, false, false, false, false, false] rfl rfl (any_of HT_.out (by kernel_rfl)) (fun _ _ _ h => h) (Or.inl ⟨by rfl, ?_⟩) ?_ ?_
      rotate_left
      · intro w'
        go_simp
        with_reducible rfl
      rotate_left
      · simp only [Act.put, List.setIfInBounds_toArray, List.set_cons_zero, List.set_cons_succ, i64_w, i32_w]
        rfl
      refine pure_ (i := 3) (N := some 72) (v := ?_) (a' := ?_) #[true, true, true, true, false, false, false, false, false, false, false, false, false, false, false, false, false] rfl rfl (any_of HT_.out (by kernel_rfl)) (fun _ _ _ h => h) (Or.inl ⟨by rfl, ?_⟩) ?_ ?_
      rotate_left
      · intro w'
        go_simp
        with_reducible rfl
      rotate_left
      · simp only [Act.put, List.setIfInBounds_toArray, List.set_cons_zero, List.set_cons_succ, i64_w, i32_w]
        rfl
      refine pure_ (i := 7) (N := some 76) (v := ?_) (a' := ?_) #[true, true, true, true, false, false, false, true, false, false, false, false, false, false, false, false, false] rfl rfl (any_of HT_.out (by kernel_rfl)) (fun _ _ _ h => h) (Or.inl ⟨by rfl, ?_⟩) ?_ ?_
      rotate_left
      · intro w'
        go_simp
        with_reducible rfl
      rotate_left
      · simp only [Act.put, List.setIfInBounds_toArray, List.set_cons_zero, List.set_cons_succ, i64_w, i32_w]
        rfl
      refine pure_ (i := 8) (N := some 77) (v := ?_) (a' := ?_) #[true, true, true, true, false, false, false, true, true, false, false, false, false, false, false, false, false] rfl rfl (any_of HT_.out (by kernel_rfl)) (fun _ _ _ h => h) (Or.inl ⟨by rfl, ?_⟩) ?_ ?_
      rotate_left
      · intro w'
        go_simp
        with_reducible rfl
      rotate_left
      · simp only [Act.put, List.setIfInBounds_toArray, List.set_cons_zero, List.set_cons_succ, i64_w, i32_w]
        rfl
      refine pure_ (i := 9) (N := some 78) (v := ?_) (a' := ?_) #[true, true, true, true, false, false, false, true, true, true, false, false, false, false, false, false, false] rfl rfl (any_of HT_.out (by kernel_rfl)) (fun _ _ _ h => h) (Or.inl ⟨by rfl, ?_⟩) ?_ ?_
      rotate_left
      · intro w'
        go_simp
        with_reducible rfl
      rotate_left
      · simp only [Act.put, List.setIfInBounds_toArray, List.set_cons_zero, List.set_cons_succ, i64_w, i32_w]
        rfl
      refine pure_ (i := 10) (N := some 79) (v := ?_) (a' := ?_) #[true, true, true, true, false, false, false, true, true, true, true, false, false, false, false, false, false] rfl rfl (any_of HT_.out (by kernel_rfl)) (fun _ _ _ h => h) (Or.inl ⟨by rfl, ?_⟩) ?_ ?_
      rotate_left
      · intro w'
        go_simp
        with_reducible rfl
      rotate_left
      · simp only [Act.put, List.setIfInBounds_toArray, List.set_cons_zero, List.set_cons_succ, i64_w, i32_w]
        rfl
      refine pure_ (i := 11) (N := some 80) (v := ?_) (a' := ?_) #[true, true, true, true, false, false, false, true, true, true, true, true, false, false, false, false, false] rfl rfl (any_of HT_.out (by kernel_rfl)) (fun _ _ _ h => h) (Or.inl ⟨by rfl, ?_⟩) ?_ ?_
      rotate_left
      · intro w'
        go_simp
        with_reducible rfl
      rotate_left
      · simp only [Act.put, List.setIfInBounds_toArray, List.set_cons_zero, List.set_cons_succ, i64_w, i32_w]
        rfl
      refine take_ (i := 4) (N := some 73) (v := ?_) (a' := ?_) #[true, true, true, true, true, false, false, true, true, true, true, true, false, false, false, false, false] rfl rfl (take_ofW HT_.out HW_.out (by kernel_rfl)) (fun _ _ _ h => h) (Or.inl ⟨by rfl, ?_⟩) hHeld ?_ ?_
      rotate_left
      · rintro w' ⟨s0, s1⟩
        go_simp
        with_reducible rfl
      rotate_left
      · simp only [Act.put, List.setIfInBounds_toArray, List.set_cons_zero, List.set_cons_succ, i64_w, i32_w]
        rfl
      refine take_ (i := 12) (N := some 81) (v := ?_) (a' := ?_) #[true, true, true, true, true, false, false, true, true, true, true, true, true, false, false, false, false] rfl rfl (take_ofW HT_.out HW_.out (by kernel_rfl)) (fun _ _ _ h => h) (Or.inl ⟨by rfl, ?_⟩) hHeld ?_ ?_
      rotate_left
      · rintro w' ⟨s0, s1⟩
        go_simp
        with_reducible rfl
      rotate_left
      · simp only [Act.put, List.setIfInBounds_toArray, List.set_cons_zero, List.set_cons_succ, i64_w, i32_w]
        rfl
      refine join_ (σ := Value × Value × Value) 3 #[true, true, true, true, true, true, true, true, true, true, true, true, true, true, false, false, false] (fun s_ => [(74, s_.1), (75, s_.2.1), (82, s_.2.2)]) (fun s_ w' => (w'.cell? (ad114.add (x15_1).toNat) = some (.int .i64 (rd l2 x15_1)) ∧ w'.cell? (ad114.add ((ji19)).toNat) = some (.int .i64 (rd l2 (ji19)))) ∧ (Kd.R (Kd.int .i64) 2 w' w.heap.size (fun k_ => some k_ ≠ (s_.2.1 : Value).ownBlock ∧ some k_ ≠ (s_.2.2 : Value).ownBlock ∧ some k_ ≠ (.slice Ao24 x14_1.length co24 : Value).ownBlock) s_.1 y115) ∧ (Kd.R (Kd.int .i64) 2 w' w.heap.size (fun k_ => some k_ ≠ (s_.1 : Value).ownBlock ∧ some k_ ≠ (s_.2.2 : Value).ownBlock ∧ some k_ ≠ (.slice Ao24 x14_1.length co24 : Value).ownBlock) s_.2.1 y118) ∧ (Kd.R (Kd.int .i64) 2 w' w.heap.size (fun k_ => some k_ ≠ (s_.1 : Value).ownBlock ∧ some k_ ≠ (s_.2.1 : Value).ownBlock ∧ some k_ ≠ (.slice Ao24 x14_1.length co24 : Value).ownBlock) s_.2.2 y122) ∧ (Kd.R (Kd.int .i64) 2 w' w.heap.size (fun k_ => some k_ ≠ (s_.1 : Value).ownBlock ∧ some k_ ≠ (s_.2.1 : Value).ownBlock ∧ some k_ ≠ (s_.2.2 : Value).ownBlock) (.slice Ao24 x14_1.length co24) x14_1) ∧ (Below w.heap.size w w')) ?_ ?_
      rotate_left
      · intro hCont
        refine two_ (i := 5) (j := 13) (Ni := some 74) (Nj := some 82) #[true, true, true, true, true, true, false, true, true, true, true, true, true, false, false, false, false] #[true, true, true, true, true, false, false, true, true, true, true, true, true, true, false, false, false] rfl rfl rfl rfl (two_of HT_.out (by kernel_rfl)) (by decide) (by decide) (fun K hK => ?_) (fun K hK => ?_)
        · skip
          refine Kd.R_lit_step (Kd.int .i64) _ 2 ?hg (N := 74) ?hd (xs := ([rd l2 x15_1] : List Int)) (inner := [.int .i64 (rd l2 x15_1)]) (ok := fun _ => True) (okp := fun _ => True) ?hr ?hp (fun _ hk => hk) trivial (Below.refl _ _) (Nat.le_refl _) (by simp) ?_; (case hd => rfl); (case hg => rfl); (case hr => first | (go_simp; done) | (go_simp; rfl)); (case hp => exact (Reps.one (show Kd.M (Kd.int .i64) _ _ _ (rd l2 x15_1) [.int .i64 (rd l2 x15_1)] from rfl) (Reps.none _ _)))
          intro v116 w26 ho27 hb hg_ hnew_
          clear hg_ hnew_
          (first | rw [← Ny115.out] at ho27 | (simp only [Int.reduceToNat] at ho27; rw [← Ny115.out] at ho27))
          have n0_ := Aside0.mk (Kd.R_elder' (by (with_reducible repeat (first | apply Kd.R_alloc | apply Kd.R_drewN | apply Kd.R_drew)); exact HO_13.out) (Kd.R_base ho27) hb)
          have n1_ := Aside0.mk (Kd.R_elder' (by (with_reducible repeat (first | apply Kd.R_alloc | apply Kd.R_drewN | apply Kd.R_drew)); exact HO_14.out) (Kd.R_base ho27) hb)
          have n2_ := Aside0.mk (Kd.R_lower (Kd.R_new' (Kd.R_new' ho27 (Kd.R_lt (by (with_reducible repeat (first | apply Kd.R_alloc | apply Kd.R_drewN | apply Kd.R_drew)); exact HO_13.out))) (Kd.R_lt (by (with_reducible repeat (first | apply Kd.R_alloc | apply Kd.R_drewN | apply Kd.R_drew)); exact HO_14.out))) (below_size (by repeat (first | (with_reducible first | exact HB.out | apply below_alloc | apply pw_below_drewN | apply below_drew1) | exact HB.out))))
          have n3_ := Aside0.mk (below_step (by repeat (first | (with_reducible first | exact HB.out | apply below_alloc | apply pw_below_drewN | apply below_drew1) | exact HB.out)) hb)
          clear HO_13
          clear HO_14
          clear HB
          have HO_13 := n0_
          have HO_14 := n1_
          have HO117 := n2_
          have HB := n3_
          clear n0_ n1_ n2_ n3_
          clear hb ho27
          obtain ⟨Ao29, co29, eo29⟩ := Kd.R_slice HO117.out
          (first | subst eo29 | (injection eo29 with f1_ f2_ f3_; have f4_ := f1_.symm; have f5_ := f3_.symm; clear f1_ f2_ f3_; subst f4_; subst f5_))
          refine hK.out _ _ ⟨((HB.out.cell (World.block_lt_of_cell? w _ hw114_0)).trans hw114_0), ((HB.out.cell (World.block_lt_of_cell? w _ hw121_0)).trans hw121_0)⟩ (fun hHeld => ?_)
          clear hK K
          refine norm_ (a' := ?_) ?_ ?_
          rotate_left
          · show Act.put _ (some 74) _ = _
            simp only [Act.put, List.setIfInBounds_toArray, List.set_cons_zero, List.set_cons_succ, i64_w, i32_w]
            rfl
          refine two_ (i := 6) (j := 13) (Ni := some 75) (Nj := some 82) #[true, true, true, true, true, true, true, true, true, true, true, true, true, false, false, false, false] #[true, true, true, true, true, true, false, true, true, true, true, true, true, true, false, false, false] rfl rfl rfl rfl (two_of HT_.out (by kernel_rfl)) (by decide) (by decide) (fun K hK => ?_) (fun K hK => ?_)
          · skip
            refine Kd.R_append_rows_step (Kd.int .i64) (w0 := w) w.heap.size (by rfl) (.tmp 69) (.tmp 74) 23 2 (.int .i64 0) 8 rfl Try.underlying23 info2 rfl (by decide) (by omega) (.slice Ao23 x13_1.length co23) x13_1 y115 _ _ _ (fun k_ => some k_ ≠ (.slice Ao24 x14_1.length co24 : Value).ownBlock ∧ some k_ ≠ (.slice Ao29 y115.length co29 : Value).ownBlock) (fun _ => False) rfl rfl ?aO ?aR (fun _ _ h => h) (fun _ h => h.elim) ?aF ?aB ?aS ?aL ?_
            (case aR => repeat (first | exact (Kd.R_reads' HO117.out).2.2 | (with_reducible refine Kd.C_alloc ?_ _) | (with_reducible refine Kd.C_drewN ?_ _) | (with_reducible refine Kd.C_drew ?_)))
            (case aB => exact (by repeat (first | (with_reducible first | exact HB.out | apply below_alloc | apply pw_below_drewN | apply below_drew1) | exact HB.out)))
            (case aF => exact (fun k_ hk => ⟨Kd.fresh' (Kd.R_lt (by (with_reducible repeat (first | apply Kd.R_alloc | apply Kd.R_drewN | apply Kd.R_drew)); exact HO_14.out)) k_ hk, Kd.fresh' (Kd.R_lt (by (with_reducible repeat (first | apply Kd.R_alloc | apply Kd.R_drewN | apply Kd.R_drew)); exact HO117.out)) k_ hk⟩))
            (case aO => exact (by (with_reducible repeat (first | apply Kd.R_alloc | apply Kd.R_drewN | apply Kd.R_drew)); exact HO_13.out))
            (case aS => exact (below_size (by repeat (first | (with_reducible first | exact HB.out | apply below_alloc | apply pw_below_drewN | apply below_drew1) | exact HB.out))))
            (case aL => have := LMc18.out; omega)
            intro v119 w28 ho hb hg hat
            rw [← Ny118.out] at ho
            have n0_ := Aside0.mk (Kd.R_after (ok := (fun k_ => some k_ ≠ (.slice Ao29 y115.length co29 : Value).ownBlock)) (by (with_reducible repeat (first | apply Kd.R_alloc | apply Kd.R_drewN | apply Kd.R_drew)); exact Kd.R_mono HO_14.out (fun _ hk => ⟨hk.2, hk.1⟩)) hg hat)
            have n1_ := Aside0.mk (Kd.R_after (ok := (fun k_ => some k_ ≠ (.slice Ao24 x14_1.length co24 : Value).ownBlock)) (by (with_reducible repeat (first | apply Kd.R_alloc | apply Kd.R_drewN | apply Kd.R_drew)); exact Kd.R_mono HO117.out (fun _ hk => ⟨hk.2, hk.1.2⟩)) hg hat)
            have n2_ := Aside0.mk (hb)
            have n3_ := Aside0.mk (ho)
            clear HO_14
            clear HO117
            clear HB
            clear HO_13
            have HO_14 := n0_
            have HO117 := n1_
            have HB := n2_
            have HO120 := n3_
            clear n0_ n1_ n2_ n3_
            clear ho hb hg hat
            refine hK.out _ _ ⟨((HB.out.cell (World.block_lt_of_cell? w _ hw114_0)).trans hw114_0), ((HB.out.cell (World.block_lt_of_cell? w _ hw121_0)).trans hw121_0)⟩ (fun hHeld => ?_)
            clear hK K
            refine norm_ (a' := ?_) ?_ ?_
            rotate_left
            · show Act.put _ (some 75) _ = _
              simp only [Act.put, List.setIfInBounds_toArray, List.set_cons_zero, List.set_cons_succ, i64_w, i32_w]
              rfl
            refine one_ (i := 13) (N := some 82) #[true, true, true, true, true, true, true, true, true, true, true, true, true, true, false, false, false] rfl rfl (one_of HT_.out (by kernel_rfl)) (by decide) (fun K hK => ?_)
            refine Kd.R_lit_step (Kd.int .i64) _ 2 ?hg (N := 82) ?hd (xs := ([rd l2 (ji19)] : List Int)) (inner := [.int .i64 (rd l2 (ji19))]) (ok := fun _ => True) (okp := fun _ => True) ?hr ?hp (fun _ hk => hk) trivial (Below.refl _ _) (Nat.le_refl _) (by simp) ?_; (case hd => rfl); (case hg => rfl); (case hr => first | (go_simp; done) | (go_simp; rfl)); (case hp => exact (Reps.one (show Kd.M (Kd.int .i64) _ _ _ (rd l2 (ji19)) [.int .i64 (rd l2 (ji19))] from rfl) (Reps.none _ _)))
            intro v123 w30 ho31 hb hg_ hnew_
            clear hg_ hnew_
            (first | rw [← Ny122.out] at ho31 | (simp only [Int.reduceToNat] at ho31; rw [← Ny122.out] at ho31))
            have n0_ := Aside0.mk (Kd.R_elder' (by (with_reducible repeat (first | apply Kd.R_alloc | apply Kd.R_drewN | apply Kd.R_drew)); exact HO_14.out) (Kd.R_base ho31) hb)
            have n1_ := Aside0.mk (Kd.R_elder' (by (with_reducible repeat (first | apply Kd.R_alloc | apply Kd.R_drewN | apply Kd.R_drew)); exact HO117.out) (Kd.R_base ho31) hb)
            have n2_ := Aside0.mk (Kd.R_elder' (by (with_reducible repeat (first | apply Kd.R_alloc | apply Kd.R_drewN | apply Kd.R_drew)); exact HO120.out) (Kd.R_base ho31) hb)
            have n3_ := Aside0.mk (Kd.R_lower (Kd.R_new' (Kd.R_new' (Kd.R_new' ho31 (Kd.R_lt (by (with_reducible repeat (first | apply Kd.R_alloc | apply Kd.R_drewN | apply Kd.R_drew)); exact HO_14.out))) (Kd.R_lt (by (with_reducible repeat (first | apply Kd.R_alloc | apply Kd.R_drewN | apply Kd.R_drew)); exact HO117.out))) (Kd.R_lt (by (with_reducible repeat (first | apply Kd.R_alloc | apply Kd.R_drewN | apply Kd.R_drew)); exact HO120.out))) (below_size (by repeat (first | (with_reducible first | exact HB.out | apply below_alloc | apply pw_below_drewN | apply below_drew1) | exact HB.out))))
            have n4_ := Aside0.mk (below_step (by repeat (first | (with_reducible first | exact HB.out | apply below_alloc | apply pw_below_drewN | apply below_drew1) | exact HB.out)) hb)
            clear HO_14
            clear HO117
            clear HO120
            clear HB
            have HO_14 := n0_
            have HO117 := n1_
            have HO120 := n2_
            have HO124 := n3_
            have HB := n4_
            clear n0_ n1_ n2_ n3_ n4_
            clear hb ho31
            refine hK.out _ _ ⟨((HB.out.cell (World.block_lt_of_cell? w _ hw114_0)).trans hw114_0), ((HB.out.cell (World.block_lt_of_cell? w _ hw121_0)).trans hw121_0)⟩ (fun hHeld => ?_)
            clear hK K
            refine norm_ (a' := ?_) ?_ ?_
            rotate_left
            · show Act.put _ (some 82) _ = _
              simp only [Act.put, List.setIfInBounds_toArray, List.set_cons_zero, List.set_cons_succ, i64_w, i32_w]
              rfl
            exact norm_ (by simp only [putAll, Act.put, List.setIfInBounds_toArray, List.set_cons_zero, List.set_cons_succ]) (hCont (.slice Ao29 y115.length co29, v119, v123) _ ⟨hHeld, (by (with_reducible repeat (first | apply Kd.R_alloc | apply Kd.R_drewN | apply Kd.R_drew)); exact Kd.R_mono HO117.out (fun _ hk => ⟨hk.1.2, ⟨hk.2, hk.1.1⟩⟩)), (by (with_reducible repeat (first | apply Kd.R_alloc | apply Kd.R_drewN | apply Kd.R_drew)); exact Kd.R_mono HO120.out (fun _ hk => ⟨hk.1.2, ⟨hk.2, hk.1.1⟩⟩)), (by (with_reducible repeat (first | apply Kd.R_alloc | apply Kd.R_drewN | apply Kd.R_drew)); exact Kd.R_mono HO124.out (fun _ hk => ⟨hk.1.2, ⟨hk.2, hk.1.1.2⟩⟩)), (by (with_reducible repeat (first | apply Kd.R_alloc | apply Kd.R_drewN | apply Kd.R_drew)); exact Kd.R_mono HO_14.out (fun _ hk => ⟨hk.1.1, ⟨hk.1.2, hk.2⟩⟩)), (by repeat (first | (with_reducible first | exact HB.out | apply below_alloc | apply pw_below_drewN | apply below_drew1) | exact HB.out))⟩)
          · skip
            refine Kd.R_lit_step (Kd.int .i64) _ 2 ?hg (N := 82) ?hd (xs := ([rd l2 (ji19)] : List Int)) (inner := [.int .i64 (rd l2 (ji19))]) (ok := fun _ => True) (okp := fun _ => True) ?hr ?hp (fun _ hk => hk) trivial (Below.refl _ _) (Nat.le_refl _) (by simp) ?_; (case hd => rfl); (case hg => rfl); (case hr => first | (go_simp; done) | (go_simp; rfl)); (case hp => exact (Reps.one (show Kd.M (Kd.int .i64) _ _ _ (rd l2 (ji19)) [.int .i64 (rd l2 (ji19))] from rfl) (Reps.none _ _)))
            intro v123 w28 ho29 hb hg_ hnew_
            clear hg_ hnew_
            (first | rw [← Ny122.out] at ho29 | (simp only [Int.reduceToNat] at ho29; rw [← Ny122.out] at ho29))
            have n0_ := Aside0.mk (Kd.R_elder' (by (with_reducible repeat (first | apply Kd.R_alloc | apply Kd.R_drewN | apply Kd.R_drew)); exact HO_13.out) (Kd.R_base ho29) hb)
            have n1_ := Aside0.mk (Kd.R_elder' (by (with_reducible repeat (first | apply Kd.R_alloc | apply Kd.R_drewN | apply Kd.R_drew)); exact HO_14.out) (Kd.R_base ho29) hb)
            have n2_ := Aside0.mk (Kd.R_elder' (by (with_reducible repeat (first | apply Kd.R_alloc | apply Kd.R_drewN | apply Kd.R_drew)); exact HO117.out) (Kd.R_base ho29) hb)
            have n3_ := Aside0.mk (Kd.R_lower (Kd.R_new' (Kd.R_new' (Kd.R_new' ho29 (Kd.R_lt (by (with_reducible repeat (first | apply Kd.R_alloc | apply Kd.R_drewN | apply Kd.R_drew)); exact HO_13.out))) (Kd.R_lt (by (with_reducible repeat (first | apply Kd.R_alloc | apply Kd.R_drewN | apply Kd.R_drew)); exact HO_14.out))) (Kd.R_lt (by (with_reducible repeat (first | apply Kd.R_alloc | apply Kd.R_drewN | apply Kd.R_drew)); exact HO117.out))) (below_size (by repeat (first | (with_reducible first | exact HB.out | apply below_alloc | apply pw_below_drewN | apply below_drew1) | exact HB.out))))
            have n4_ := Aside0.mk (below_step (by repeat (first | (with_reducible first | exact HB.out | apply below_alloc | apply pw_below_drewN | apply below_drew1) | exact HB.out)) hb)
            clear HO_13
            clear HO_14
            clear HO117
            clear HB
            have HO_13 := n0_
            have HO_14 := n1_
            have HO117 := n2_
            have HO124 := n3_
            have HB := n4_
            clear n0_ n1_ n2_ n3_ n4_
            clear hb ho29
            obtain ⟨Ao31, co31, eo31⟩ := Kd.R_slice HO117.out
            (first | subst eo31 | (injection eo31 with f1_ f2_ f3_; have f4_ := f1_.symm; have f5_ := f3_.symm; clear f1_ f2_ f3_; subst f4_; subst f5_))
            refine hK.out _ _ ⟨((HB.out.cell (World.block_lt_of_cell? w _ hw114_0)).trans hw114_0), ((HB.out.cell (World.block_lt_of_cell? w _ hw121_0)).trans hw121_0)⟩ (fun hHeld => ?_)
            clear hK K
            refine norm_ (a' := ?_) ?_ ?_
            rotate_left
            · show Act.put _ (some 82) _ = _
              simp only [Act.put, List.setIfInBounds_toArray, List.set_cons_zero, List.set_cons_succ, i64_w, i32_w]
              rfl
            refine one_ (i := 6) (N := some 75) #[true, true, true, true, true, true, true, true, true, true, true, true, true, true, false, false, false] rfl rfl (one_of HT_.out (by kernel_rfl)) (by decide) (fun K hK => ?_)
            refine Kd.R_append_rows_step (Kd.int .i64) (w0 := w) w.heap.size (by rfl) (.tmp 69) (.tmp 74) 23 2 (.int .i64 0) 8 rfl Try.underlying23 info2 rfl (by decide) (by omega) (.slice Ao23 x13_1.length co23) x13_1 y115 _ _ _ (fun k_ => some k_ ≠ (.slice Ao24 x14_1.length co24 : Value).ownBlock ∧ some k_ ≠ (.slice Ao31 y115.length co31 : Value).ownBlock ∧ some k_ ≠ (v123 : Value).ownBlock) (fun _ => False) rfl rfl ?aO ?aR (fun _ _ h => h) (fun _ h => h.elim) ?aF ?aB ?aS ?aL ?_
            (case aR => repeat (first | exact (Kd.R_reads' HO117.out).2.2 | (with_reducible refine Kd.C_alloc ?_ _) | (with_reducible refine Kd.C_drewN ?_ _) | (with_reducible refine Kd.C_drew ?_)))
            (case aB => exact (by repeat (first | (with_reducible first | exact HB.out | apply below_alloc | apply pw_below_drewN | apply below_drew1) | exact HB.out)))
            (case aF => exact (fun k_ hk => ⟨Kd.fresh' (Kd.R_lt (by (with_reducible repeat (first | apply Kd.R_alloc | apply Kd.R_drewN | apply Kd.R_drew)); exact HO_14.out)) k_ hk, Kd.fresh' (Kd.R_lt (by (with_reducible repeat (first | apply Kd.R_alloc | apply Kd.R_drewN | apply Kd.R_drew)); exact HO117.out)) k_ hk, Kd.fresh' (Kd.R_lt (by (with_reducible repeat (first | apply Kd.R_alloc | apply Kd.R_drewN | apply Kd.R_drew)); exact HO124.out)) k_ hk⟩))
            (case aO => exact (by (with_reducible repeat (first | apply Kd.R_alloc | apply Kd.R_drewN | apply Kd.R_drew)); exact Kd.R_mono HO_13.out (fun _ hk => ⟨hk.1.1, ⟨hk.1.2, hk.2⟩⟩)))
            (case aS => exact (below_size (by repeat (first | (with_reducible first | exact HB.out | apply below_alloc | apply pw_below_drewN | apply below_drew1) | exact HB.out))))
            (case aL => have := LMc18.out; omega)
            intro v119 w30 ho hb hg hat
            rw [← Ny118.out] at ho
            have n0_ := Aside0.mk (Kd.R_after (ok := (fun k_ => some k_ ≠ (.slice Ao31 y115.length co31 : Value).ownBlock ∧ some k_ ≠ (v123 : Value).ownBlock)) (by (with_reducible repeat (first | apply Kd.R_alloc | apply Kd.R_drewN | apply Kd.R_drew)); exact Kd.R_mono HO_14.out (fun _ hk => ⟨⟨hk.1.2, hk.2⟩, hk.1.1⟩)) hg hat)
            have n1_ := Aside0.mk (Kd.R_after (ok := (fun k_ => some k_ ≠ (.slice Ao24 x14_1.length co24 : Value).ownBlock ∧ some k_ ≠ (v123 : Value).ownBlock)) (by (with_reducible repeat (first | apply Kd.R_alloc | apply Kd.R_drewN | apply Kd.R_drew)); exact Kd.R_mono HO117.out (fun _ hk => ⟨⟨hk.1.2, hk.2⟩, hk.1.1.2⟩)) hg hat)
            have n2_ := Aside0.mk (Kd.R_after (ok := (fun k_ => some k_ ≠ (.slice Ao24 x14_1.length co24 : Value).ownBlock ∧ some k_ ≠ (.slice Ao31 y115.length co31 : Value).ownBlock)) (by (with_reducible repeat (first | apply Kd.R_alloc | apply Kd.R_drewN | apply Kd.R_drew)); exact Kd.R_mono HO124.out (fun _ hk => ⟨⟨hk.1.2, hk.2⟩, hk.1.1.2⟩)) hg hat)
            have n3_ := Aside0.mk (hb)
            have n4_ := Aside0.mk (ho)
            clear HO_14
            clear HO117
            clear HO124
            clear HB
            clear HO_13
            have HO_14 := n0_
            have HO117 := n1_
            have HO124 := n2_
            have HB := n3_
            have HO120 := n4_
            clear n0_ n1_ n2_ n3_ n4_
            clear ho hb hg hat
            refine hK.out _ _ ⟨((HB.out.cell (World.block_lt_of_cell? w _ hw114_0)).trans hw114_0), ((HB.out.cell (World.block_lt_of_cell? w _ hw121_0)).trans hw121_0)⟩ (fun hHeld => ?_)
            clear hK K
            refine norm_ (a' := ?_) ?_ ?_
            rotate_left
            · show Act.put _ (some 75) _ = _
              simp only [Act.put, List.setIfInBounds_toArray, List.set_cons_zero, List.set_cons_succ, i64_w, i32_w]
              rfl
            exact norm_ (by simp only [putAll, Act.put, List.setIfInBounds_toArray, List.set_cons_zero, List.set_cons_succ]) (hCont (.slice Ao31 y115.length co31, v119, v123) _ ⟨hHeld, (by (with_reducible repeat (first | apply Kd.R_alloc | apply Kd.R_drewN | apply Kd.R_drew)); exact Kd.R_mono HO117.out (fun _ hk => ⟨hk.2, ⟨hk.1.2, hk.1.1⟩⟩)), (by (with_reducible repeat (first | apply Kd.R_alloc | apply Kd.R_drewN | apply Kd.R_drew)); exact Kd.R_mono HO120.out (fun _ hk => ⟨hk.2.1, ⟨hk.2.2, hk.1⟩⟩)), (by (with_reducible repeat (first | apply Kd.R_alloc | apply Kd.R_drewN | apply Kd.R_drew)); exact Kd.R_mono HO124.out (fun _ hk => ⟨hk.1.2, ⟨hk.2, hk.1.1⟩⟩)), (by (with_reducible repeat (first | apply Kd.R_alloc | apply Kd.R_drewN | apply Kd.R_drew)); exact Kd.R_mono HO_14.out (fun _ hk => ⟨hk.1.1, ⟨hk.2, hk.1.2⟩⟩)), (by repeat (first | (with_reducible first | exact HB.out | apply below_alloc | apply pw_below_drewN | apply below_drew1) | exact HB.out))⟩)
        · skip
          refine Kd.R_lit_step (Kd.int .i64) _ 2 ?hg (N := 82) ?hd (xs := ([rd l2 (ji19)] : List Int)) (inner := [.int .i64 (rd l2 (ji19))]) (ok := fun _ => True) (okp := fun _ => True) ?hr ?hp (fun _ hk => hk) trivial (Below.refl _ _) (Nat.le_refl _) (by simp) ?_; (case hd => rfl); (case hg => rfl); (case hr => first | (go_simp; done) | (go_simp; rfl)); (case hp => exact (Reps.one (show Kd.M (Kd.int .i64) _ _ _ (rd l2 (ji19)) [.int .i64 (rd l2 (ji19))] from rfl) (Reps.none _ _)))
          intro v123 w26 ho27 hb hg_ hnew_
          clear hg_ hnew_
          (first | rw [← Ny122.out] at ho27 | (simp only [Int.reduceToNat] at ho27; rw [← Ny122.out] at ho27))
          have n0_ := Aside0.mk (Kd.R_elder' (by (with_reducible repeat (first | apply Kd.R_alloc | apply Kd.R_drewN | apply Kd.R_drew)); exact HO_13.out) (Kd.R_base ho27) hb)
          have n1_ := Aside0.mk (Kd.R_elder' (by (with_reducible repeat (first | apply Kd.R_alloc | apply Kd.R_drewN | apply Kd.R_drew)); exact HO_14.out) (Kd.R_base ho27) hb)
          have n2_ := Aside0.mk (Kd.R_lower (Kd.R_new' (Kd.R_new' ho27 (Kd.R_lt (by (with_reducible repeat (first | apply Kd.R_alloc | apply Kd.R_drewN | apply Kd.R_drew)); exact HO_13.out))) (Kd.R_lt (by (with_reducible repeat (first | apply Kd.R_alloc | apply Kd.R_drewN | apply Kd.R_drew)); exact HO_14.out))) (below_size (by repeat (first | (with_reducible first | exact HB.out | apply below_alloc | apply pw_below_drewN | apply below_drew1) | exact HB.out))))
          have n3_ := Aside0.mk (below_step (by repeat (first | (with_reducible first | exact HB.out | apply below_alloc | apply pw_below_drewN | apply below_drew1) | exact HB.out)) hb)
          clear HO_13
          clear HO_14
          clear HB
          have HO_13 := n0_
          have HO_14 := n1_
          have HO124 := n2_
          have HB := n3_
          clear n0_ n1_ n2_ n3_
          clear hb ho27
          refine hK.out _ _ ⟨((HB.out.cell (World.block_lt_of_cell? w _ hw114_0)).trans hw114_0), ((HB.out.cell (World.block_lt_of_cell? w _ hw121_0)).trans hw121_0)⟩ (fun hHeld => ?_)
          clear hK K
          refine norm_ (a' := ?_) ?_ ?_
          rotate_left
          · show Act.put _ (some 82) _ = _
            simp only [Act.put, List.setIfInBounds_toArray, List.set_cons_zero, List.set_cons_succ, i64_w, i32_w]
            rfl
          refine one_ (i := 5) (N := some 74) #[true, true, true, true, true, true, false, true, true, true, true, true, true, true, false, false, false] rfl rfl (one_of HT_.out (by kernel_rfl)) (by decide) (fun K hK => ?_)
          refine Kd.R_lit_step (Kd.int .i64) _ 2 ?hg (N := 74) ?hd (xs := ([rd l2 x15_1] : List Int)) (inner := [.int .i64 (rd l2 x15_1)]) (ok := fun _ => True) (okp := fun _ => True) ?hr ?hp (fun _ hk => hk) trivial (Below.refl _ _) (Nat.le_refl _) (by simp) ?_; (case hd => rfl); (case hg => rfl); (case hr => first | (go_simp; done) | (go_simp; rfl)); (case hp => exact (Reps.one (show Kd.M (Kd.int .i64) _ _ _ (rd l2 x15_1) [.int .i64 (rd l2 x15_1)] from rfl) (Reps.none _ _)))
          intro v116 w28 ho29 hb hg_ hnew_
          clear hg_ hnew_
          (first | rw [← Ny115.out] at ho29 | (simp only [Int.reduceToNat] at ho29; rw [← Ny115.out] at ho29))
          have n0_ := Aside0.mk (Kd.R_elder' (by (with_reducible repeat (first | apply Kd.R_alloc | apply Kd.R_drewN | apply Kd.R_drew)); exact HO_13.out) (Kd.R_base ho29) hb)
          have n1_ := Aside0.mk (Kd.R_elder' (by (with_reducible repeat (first | apply Kd.R_alloc | apply Kd.R_drewN | apply Kd.R_drew)); exact HO_14.out) (Kd.R_base ho29) hb)
          have n2_ := Aside0.mk (Kd.R_elder' (by (with_reducible repeat (first | apply Kd.R_alloc | apply Kd.R_drewN | apply Kd.R_drew)); exact HO124.out) (Kd.R_base ho29) hb)
          have n3_ := Aside0.mk (Kd.R_lower (Kd.R_new' (Kd.R_new' (Kd.R_new' ho29 (Kd.R_lt (by (with_reducible repeat (first | apply Kd.R_alloc | apply Kd.R_drewN | apply Kd.R_drew)); exact HO_13.out))) (Kd.R_lt (by (with_reducible repeat (first | apply Kd.R_alloc | apply Kd.R_drewN | apply Kd.R_drew)); exact HO_14.out))) (Kd.R_lt (by (with_reducible repeat (first | apply Kd.R_alloc | apply Kd.R_drewN | apply Kd.R_drew)); exact HO124.out))) (below_size (by repeat (first | (with_reducible first | exact HB.out | apply below_alloc | apply pw_below_drewN | apply below_drew1) | exact HB.out))))
          have n4_ := Aside0.mk (below_step (by repeat (first | (with_reducible first | exact HB.out | apply below_alloc | apply pw_below_drewN | apply below_drew1) | exact HB.out)) hb)
          clear HO_13
          clear HO_14
          clear HO124
          clear HB
          have HO_13 := n0_
          have HO_14 := n1_
          have HO124 := n2_
          have HO117 := n3_
          have HB := n4_
          clear n0_ n1_ n2_ n3_ n4_
          clear hb ho29
          obtain ⟨Ao31, co31, eo31⟩ := Kd.R_slice HO117.out
          (first | subst eo31 | (injection eo31 with f1_ f2_ f3_; have f4_ := f1_.symm; have f5_ := f3_.symm; clear f1_ f2_ f3_; subst f4_; subst f5_))
          refine hK.out _ _ ⟨((HB.out.cell (World.block_lt_of_cell? w _ hw114_0)).trans hw114_0), ((HB.out.cell (World.block_lt_of_cell? w _ hw121_0)).trans hw121_0)⟩ (fun hHeld => ?_)
          clear hK K
          refine norm_ (a' := ?_) ?_ ?_
          rotate_left
          · show Act.put _ (some 74) _ = _
            simp only [Act.put, List.setIfInBounds_toArray, List.set_cons_zero, List.set_cons_succ, i64_w, i32_w]
            rfl
          refine one_ (i := 6) (N := some 75) #[true, true, true, true, true, true, true, true, true, true, true, true, true, true, false, false, false] rfl rfl (one_of HT_.out (by kernel_rfl)) (by decide) (fun K hK => ?_)
          refine Kd.R_append_rows_step (Kd.int .i64) (w0 := w) w.heap.size (by rfl) (.tmp 69) (.tmp 74) 23 2 (.int .i64 0) 8 rfl Try.underlying23 info2 rfl (by decide) (by omega) (.slice Ao23 x13_1.length co23) x13_1 y115 _ _ _ (fun k_ => some k_ ≠ (.slice Ao24 x14_1.length co24 : Value).ownBlock ∧ some k_ ≠ (v123 : Value).ownBlock ∧ some k_ ≠ (.slice Ao31 y115.length co31 : Value).ownBlock) (fun _ => False) rfl rfl ?aO ?aR (fun _ _ h => h) (fun _ h => h.elim) ?aF ?aB ?aS ?aL ?_
          (case aR => repeat (first | exact (Kd.R_reads' HO117.out).2.2 | (with_reducible refine Kd.C_alloc ?_ _) | (with_reducible refine Kd.C_drewN ?_ _) | (with_reducible refine Kd.C_drew ?_)))
          (case aB => exact (by repeat (first | (with_reducible first | exact HB.out | apply below_alloc | apply pw_below_drewN | apply below_drew1) | exact HB.out)))
          (case aF => exact (fun k_ hk => ⟨Kd.fresh' (Kd.R_lt (by (with_reducible repeat (first | apply Kd.R_alloc | apply Kd.R_drewN | apply Kd.R_drew)); exact HO_14.out)) k_ hk, Kd.fresh' (Kd.R_lt (by (with_reducible repeat (first | apply Kd.R_alloc | apply Kd.R_drewN | apply Kd.R_drew)); exact HO124.out)) k_ hk, Kd.fresh' (Kd.R_lt (by (with_reducible repeat (first | apply Kd.R_alloc | apply Kd.R_drewN | apply Kd.R_drew)); exact HO117.out)) k_ hk⟩))
          (case aO => exact (by (with_reducible repeat (first | apply Kd.R_alloc | apply Kd.R_drewN | apply Kd.R_drew)); exact Kd.R_mono HO_13.out (fun _ hk => ⟨hk.1.1, ⟨hk.1.2, hk.2⟩⟩)))
          (case aS => exact (below_size (by repeat (first | (with_reducible first | exact HB.out | apply below_alloc | apply pw_below_drewN | apply below_drew1) | exact HB.out))))
          (case aL => have := LMc18.out; omega)
          intro v119 w30 ho hb hg hat
          rw [← Ny118.out] at ho
          have n0_ := Aside0.mk (Kd.R_after (ok := (fun k_ => some k_ ≠ (v123 : Value).ownBlock ∧ some k_ ≠ (.slice Ao31 y115.length co31 : Value).ownBlock)) (by (with_reducible repeat (first | apply Kd.R_alloc | apply Kd.R_drewN | apply Kd.R_drew)); exact Kd.R_mono HO_14.out (fun _ hk => ⟨⟨hk.1.2, hk.2⟩, hk.1.1⟩)) hg hat)
          have n1_ := Aside0.mk (Kd.R_after (ok := (fun k_ => some k_ ≠ (.slice Ao24 x14_1.length co24 : Value).ownBlock ∧ some k_ ≠ (.slice Ao31 y115.length co31 : Value).ownBlock)) (by (with_reducible repeat (first | apply Kd.R_alloc | apply Kd.R_drewN | apply Kd.R_drew)); exact Kd.R_mono HO124.out (fun _ hk => ⟨⟨hk.1.2, hk.2⟩, hk.1.1.2⟩)) hg hat)
          have n2_ := Aside0.mk (Kd.R_after (ok := (fun k_ => some k_ ≠ (.slice Ao24 x14_1.length co24 : Value).ownBlock ∧ some k_ ≠ (v123 : Value).ownBlock)) (by (with_reducible repeat (first | apply Kd.R_alloc | apply Kd.R_drewN | apply Kd.R_drew)); exact Kd.R_mono HO117.out (fun _ hk => ⟨⟨hk.1.2, hk.2⟩, hk.1.1.2⟩)) hg hat)
          have n3_ := Aside0.mk (hb)
          have n4_ := Aside0.mk (ho)
          clear HO_14
          clear HO124
          clear HO117
          clear HB
          clear HO_13
          have HO_14 := n0_
          have HO124 := n1_
          have HO117 := n2_
          have HB := n3_
          have HO120 := n4_
          clear n0_ n1_ n2_ n3_ n4_
          clear ho hb hg hat
          refine hK.out _ _ ⟨((HB.out.cell (World.block_lt_of_cell? w _ hw114_0)).trans hw114_0), ((HB.out.cell (World.block_lt_of_cell? w _ hw121_0)).trans hw121_0)⟩ (fun hHeld => ?_)
          clear hK K
          refine norm_ (a' := ?_) ?_ ?_
          rotate_left
          · show Act.put _ (some 75) _ = _
            simp only [Act.put, List.setIfInBounds_toArray, List.set_cons_zero, List.set_cons_succ, i64_w, i32_w]
            rfl
          exact norm_ (by simp only [putAll, Act.put, List.setIfInBounds_toArray, List.set_cons_zero, List.set_cons_succ]) (hCont (.slice Ao31 y115.length co31, v119, v123) _ ⟨hHeld, (by (with_reducible repeat (first | apply Kd.R_alloc | apply Kd.R_drewN | apply Kd.R_drew)); exact Kd.R_mono HO117.out (fun _ hk => ⟨hk.2, ⟨hk.1.2, hk.1.1⟩⟩)), (by (with_reducible repeat (first | apply Kd.R_alloc | apply Kd.R_drewN | apply Kd.R_drew)); exact Kd.R_mono HO120.out (fun _ hk => ⟨hk.2.2, ⟨hk.2.1, hk.1⟩⟩)), (by (with_reducible repeat (first | apply Kd.R_alloc | apply Kd.R_drewN | apply Kd.R_drew)); exact Kd.R_mono HO124.out (fun _ hk => ⟨hk.1.2, ⟨hk.2, hk.1.1⟩⟩)), (by (with_reducible repeat (first | apply Kd.R_alloc | apply Kd.R_drewN | apply Kd.R_drew)); exact Kd.R_mono HO_14.out (fun _ hk => ⟨hk.1.2, ⟨hk.2, hk.1.1⟩⟩)), (by repeat (first | (with_reducible first | exact HB.out | apply below_alloc | apply pw_below_drewN | apply below_drew1) | exact HB.out))⟩)
      rintro ⟨v116, v119, v123⟩ w32 ⟨hS_, h0_, h1_, h2_, h3_, h4_⟩
      have n0_ : Aside0 (Kd.R (Kd.int .i64) 2 w32 w.heap.size (fun k_ => some k_ ≠ (v119 : Value).ownBlock ∧ some k_ ≠ (v123 : Value).ownBlock ∧ some k_ ≠ (.slice Ao24 x14_1.length co24 : Value).ownBlock) v116 y115) := ⟨h0_⟩
      have n1_ : Aside0 (Kd.R (Kd.int .i64) 2 w32 w.heap.size (fun k_ => some k_ ≠ (v116 : Value).ownBlock ∧ some k_ ≠ (v123 : Value).ownBlock ∧ some k_ ≠ (.slice Ao24 x14_1.length co24 : Value).ownBlock) v119 y118) := ⟨h1_⟩
      have n2_ : Aside0 (Kd.R (Kd.int .i64) 2 w32 w.heap.size (fun k_ => some k_ ≠ (v116 : Value).ownBlock ∧ some k_ ≠ (v119 : Value).ownBlock ∧ some k_ ≠ (.slice Ao24 x14_1.length co24 : Value).ownBlock) v123 y122) := ⟨h2_⟩
      have n3_ : Aside0 (Kd.R (Kd.int .i64) 2 w32 w.heap.size (fun k_ => some k_ ≠ (v116 : Value).ownBlock ∧ some k_ ≠ (v119 : Value).ownBlock ∧ some k_ ≠ (v123 : Value).ownBlock) (.slice Ao24 x14_1.length co24) x14_1) := ⟨h3_⟩
      have n4_ : Aside0 (Below w.heap.size w w32) := ⟨h4_⟩
      clear HO_13
      clear HO_14
      clear HB
      clear h0_ h1_ h2_ h3_ h4_
      have HO117 := n0_
      have HO120 := n1_
      have HO124 := n2_
      have HO_14 := n3_
      have HB := n4_
      clear n0_ n1_ n2_ n3_ n4_
      have hHeld : w32.cell? (ad114.add (x15_1).toNat) = some (.int .i64 (rd l2 x15_1)) ∧ w32.cell? (ad114.add ((ji19)).toNat) = some (.int .i64 (rd l2 (ji19))) := hS_
      obtain ⟨Ao34, co34, eo34⟩ := Kd.R_slice HO124.out
      (first | subst eo34 | (injection eo34 with f1_ f2_ f3_; have f4_ := f1_.symm; have f5_ := f3_.symm; clear f1_ f2_ f3_; subst f4_; subst f5_))
      refine norm_ (a' := ?_) ?_ ?_
      rotate_left
      · simp only [putAll, Act.put, List.setIfInBounds_toArray, List.set_cons_zero, List.set_cons_succ]
        rfl
      refine one_ (i := 14) (N := some 83) #[true, true, true, true, true, true, true, true, true, true, true, true, true, true, true, false, false] rfl rfl (one_of HT_.out (by kernel_rfl)) (by decide) (fun K hK => ?_)
      refine Kd.R_append_rows_step (Kd.int .i64) (w0 := w) w.heap.size (by rfl) (.tmp 76) (.tmp 82) 23 2 (.int .i64 0) 8 rfl Try.underlying23 info2 rfl (by decide) (by omega) (.slice Ao24 x14_1.length co24) x14_1 y122 _ _ _ (fun k_ => some k_ ≠ (v116 : Value).ownBlock ∧ some k_ ≠ (v119 : Value).ownBlock ∧ some k_ ≠ (.slice Ao34 y122.length co34 : Value).ownBlock) (fun _ => False) rfl rfl ?aO ?aR (fun _ _ h => h) (fun _ h => h.elim) ?aF ?aB ?aS ?aL ?_
      (case aR => repeat (first | exact (Kd.R_reads' HO124.out).2.2 | (with_reducible refine Kd.C_alloc ?_ _) | (with_reducible refine Kd.C_drewN ?_ _) | (with_reducible refine Kd.C_drew ?_)))
      (case aB => exact (by repeat (first | (with_reducible first | exact HB.out | apply below_alloc | apply pw_below_drewN | apply below_drew1) | exact HB.out)))
      (case aF => exact (fun k_ hk => ⟨Kd.fresh' (Kd.R_lt (by (with_reducible repeat (first | apply Kd.R_alloc | apply Kd.R_drewN | apply Kd.R_drew)); exact HO117.out)) k_ hk, Kd.fresh' (Kd.R_lt (by (with_reducible repeat (first | apply Kd.R_alloc | apply Kd.R_drewN | apply Kd.R_drew)); exact HO120.out)) k_ hk, Kd.fresh' (Kd.R_lt (by (with_reducible repeat (first | apply Kd.R_alloc | apply Kd.R_drewN | apply Kd.R_drew)); exact HO124.out)) k_ hk⟩))
      (case aO => exact (by (with_reducible repeat (first | apply Kd.R_alloc | apply Kd.R_drewN | apply Kd.R_drew)); exact HO_14.out))
      (case aS => exact (below_size (by repeat (first | (with_reducible first | exact HB.out | apply below_alloc | apply pw_below_drewN | apply below_drew1) | exact HB.out))))
      (case aL => have := LMc22.out; omega)
      intro v126 w33 ho hb hg hat
      rw [← Ny125.out] at ho
      have n0_ := Aside0.mk (Kd.R_after (ok := (fun k_ => some k_ ≠ (v119 : Value).ownBlock ∧ some k_ ≠ (.slice Ao34 y122.length co34 : Value).ownBlock)) (by (with_reducible repeat (first | apply Kd.R_alloc | apply Kd.R_drewN | apply Kd.R_drew)); exact Kd.R_mono HO117.out (fun _ hk => ⟨⟨hk.1, hk.2.1⟩, hk.2.2⟩)) hg hat)
      have n1_ := Aside0.mk (Kd.R_after (ok := (fun k_ => some k_ ≠ (v116 : Value).ownBlock ∧ some k_ ≠ (.slice Ao34 y122.length co34 : Value).ownBlock)) (by (with_reducible repeat (first | apply Kd.R_alloc | apply Kd.R_drewN | apply Kd.R_drew)); exact Kd.R_mono HO120.out (fun _ hk => ⟨⟨hk.1, hk.2.1⟩, hk.2.2⟩)) hg hat)
      have n2_ := Aside0.mk (Kd.R_after (ok := (fun k_ => some k_ ≠ (v116 : Value).ownBlock ∧ some k_ ≠ (v119 : Value).ownBlock)) (by (with_reducible repeat (first | apply Kd.R_alloc | apply Kd.R_drewN | apply Kd.R_drew)); exact Kd.R_mono HO124.out (fun _ hk => ⟨⟨hk.1, hk.2.1⟩, hk.2.2⟩)) hg hat)
      have n3_ := Aside0.mk (hb)
      have n4_ := Aside0.mk (ho)
      clear HO117
      clear HO120
      clear HO124
      clear HB
      clear HO_14
      have HO117 := n0_
      have HO120 := n1_
      have HO124 := n2_
      have HB := n3_
      have HO127 := n4_
      clear n0_ n1_ n2_ n3_ n4_
      clear ho hb hg hat
      refine hK.out _ _ ⟨((HB.out.cell (World.block_lt_of_cell? w _ hw114_0)).trans hw114_0), ((HB.out.cell (World.block_lt_of_cell? w _ hw121_0)).trans hw121_0)⟩ (fun hHeld => ?_)
      clear hK K
      refine norm_ (a' := ?_) ?_ ?_
      rotate_left
      · show Act.put _ (some 83) _ = _
        simp only [Act.put, List.setIfInBounds_toArray, List.set_cons_zero, List.set_cons_succ, i64_w, i32_w]
        rfl
      refine pure_ (i := 15) (N := some 13) (v := ?_) (a' := ?_) #[true, true, true, true, true, true, true, true, true, true, true, true, true, true, true, true, false] rfl rfl (any_of HT_.out (by kernel_rfl)) (fun _ _ _ h => h) (Or.inl ⟨by rfl, ?_⟩) ?_ ?_
      rotate_left
      · intro w'
        go_simp
        with_reducible rfl
      rotate_left
      · simp only [Act.put, List.setIfInBounds_toArray, List.set_cons_zero, List.set_cons_succ, i64_w, i32_w]
        rfl
      refine pure_ (i := 16) (N := some 14) (v := ?_) (a' := ?_) #[true, true, true, true, true, true, true, true, true, true, true, true, true, true, true, true, true] rfl rfl (any_of HT_.out (by kernel_rfl)) (fun _ _ _ h => h) (Or.inl ⟨by rfl, ?_⟩) ?_ ?_
      rotate_left
      · intro w'
        go_simp
        with_reducible rfl
      rotate_left
      · simp only [Act.put, List.setIfInBounds_toArray, List.set_cons_zero, List.set_cons_succ, i64_w, i32_w]
        rfl
      refine done_ (done_of HT_.out (by kernel_rfl)) ?_
      try go_wp2
      go_roundg k1
      case measure => have := HK1.out; omega
      case rel => exact ⟨(y118), (y125), (wrap64 (x15_1 + 2)), (by first | rfl | (simp; done) | (simp [*]; done)), H', ⟨by have := HK1.out; omega⟩, ⟨by (with_reducible repeat (first | apply Kd.R_alloc | apply Kd.R_drewN | apply Kd.R_drew)); exact Kd.R_mono HO120.out (fun _ hk => hk.2)⟩, ⟨by (with_reducible repeat (first | apply Kd.R_alloc | apply Kd.R_drewN | apply Kd.R_drew)); exact Kd.R_mono HO127.out (fun _ hk => hk.2.1)⟩, ⟨by repeat (first | (with_reducible first | exact HB.out | apply below_alloc | apply pw_below_drewN | apply below_drew1) | exact HB.out)⟩⟩
set_option maxHeartbeats 64000000 in
set_option maxRecDepth 100000 in
theorem fourier_transform.calls (k : Nat) (a0 : Int) (a1 : Int) (A2 : Option Addr) (c2 : Nat) (l2 : List Int) (r : List Int) (w : World) (hr2 : Kd.C (Kd.int .i64) w A2 l2.length l2) (hc2 : l2.length ≤ c2) (h : fourier_transform.f k a0 a1 l2 = some r) :
    Calls Try.prog 67 #[.int .i64 a0, .int .i64 a1, .slice A2 l2.length c2] w fun e w' => ∃ v0_ : Value, e = .returned (v0_) ∧ Kd.R (Kd.int .i64) 2 w' w.heap.size (fun _ => True) v0_ r ∧ Below w.heap.size w w' := by
  exact fourier_transform.callsK k a0 a1 A2 c2 l2 r w hr2 hc2 h

end Go.Proofs.Ytbopgopggnagpaa.PAll
