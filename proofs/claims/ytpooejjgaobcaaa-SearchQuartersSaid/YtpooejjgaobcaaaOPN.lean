/- Arguments of any plain kind (numbers, truth values, strings, slices, structs of them), opened all at once: what a reading says as a kind's own row. -/
import Derived.Test.YtpooejjgaobcaaaPAllx0
import Derived.Deep.Slices
import Derived.ChangeArms
import Derived.DataReads
import Derived.ShutString
import Derived.Carry
namespace Go.Proofs.Ytpooejjgaobcaaa.OPN
open Go Go.RowKit Go.Proofs.YtpooejjgaobcaaaW.PrintWords Go.Proofs.YtpooejjgaobcaaaW.PrintLast
set_option linter.unusedVariables false

def Opens (P : Program) (t : TypeId) {α : Type} (d : Kd α) (V : α → Prop) : Prop :=
  P.cellsOf t = d.sz ∧ ∀ (H : Type) (enc : TypeId × Value → H) (w : World) (base : Nat) (sp : Nat → Bool) (hd : Bool) (fuel : Nat) (cs : List Value) (x : DataW H × List MemPlace),
    DataW.trod enc P w base sp hd fuel t cs = some x → ∃ p, d.K w p cs ∧ V p
def OpensF (P : Program) (fs : Array Field) (i off : Nat) {α : Type} (d : Kd α) (V : α → Prop) : Prop :=
  ∀ (H : Type) (enc : TypeId × Value → H) (w : World) (base : Nat) (sp : Nat → Bool) (hd : Bool) (n : Nat) (cs : List Value) (xs : List (DataW H × List MemPlace)), xs.length = fs.size →
    (∀ (j : Nat) (f : Field), fs[j]? = some f → DataW.trod enc P w base sp hd n f.type ((cs.drop f.offset).take (P.cellsOf f.type)) = xs[j]?) → cs.length = off + d.sz → ∃ p, d.K w p (cs.drop off) ∧ V p

theorem opens_int {P : Program} {t : TypeId} {k : IntKind} (ht : P.underlying t = some (.int k)) (hc : P.cellsOf t = 1) : Opens P t (Kd.int k) (fun n => (Lit.int k n).wf = true) :=
  ⟨hc, fun H enc w base sp hd fuel cs x h => by
    obtain ⟨n, rfl, _, hw⟩ := DataW.trod_int ht h
    exact ⟨n, rfl, hw⟩⟩
theorem opens_bool {P : Program} {t : TypeId} (ht : P.underlying t = some .bool) (hc : P.cellsOf t = 1) : Opens P t Kd.bool (fun _ => True) :=
  ⟨hc, fun H enc w base sp hd fuel cs x h => by
    obtain ⟨n, rfl, _⟩ := DataW.trod_bool ht h
    exact ⟨n, rfl, trivial⟩⟩
theorem opens_string {P : Program} {t : TypeId} (ht : P.underlying t = some .string) (hc : P.cellsOf t = 1) : Opens P t Kd.string (fun s => s.size ≤ maxLen) :=
  ⟨hc, fun H enc w base sp hd fuel cs x h => by
    obtain ⟨n, rfl, _, hw⟩ := DataW.trod_string ht h
    exact ⟨n, rfl, hw⟩⟩
theorem add_add' (a : Addr) (i j : Nat) : (a.add i).add j = a.add (i + j) := Go.Deep.add_add a i j
theorem opens_slice {P : Program} {t e : TypeId} {α : Type} {d : Kd α} {V : α → Prop} (ht : P.underlying t = some (.slice e)) (hc : P.cellsOf t = 1) (he : Opens P e d V) :
    Opens P t (Kd.slice e d) (fun l => l.length ≤ maxLen ∧ ∀ x ∈ l, V x) :=
  ⟨hc, fun H enc w base sp hd fuel cs x h => by
    rcases Go.Deep.open_slice ht h with ⟨rfl, _⟩ | ⟨a, len, cap, m, n, D, Pl, rfl, hb, hl, hm, hmm, rfl, hx⟩
    · exact ⟨[], ⟨none, 0, rfl, Nat.le_refl _, rfl, by simp, fun h => absurd h (by simp)⟩, by simp [maxLen], by simp⟩
    · have hle : len ≤ m := by rw [hmm]; split <;> omega
      have key : ∀ (k : Nat), k ≤ len → ∃ l : List α, l.length = k ∧ (∀ x ∈ l, V x) ∧ ∀ j p, l[j]? = some p → ∃ c, c.length = d.sz ∧ d.K w p c ∧ ∀ i u, c[i]? = some u → w.cell? (a.add (j * d.sz + i)) = some u := by
        intro k
        induction k with
        | zero => intro _; exact ⟨[], rfl, by simp, by simp⟩
        | succ k ih =>
          intro hk
          obtain ⟨l, hl1, hl2, hl3⟩ := ih (by omega)
          obtain ⟨cs', h1, h2⟩ := hx k (by omega)
          obtain ⟨p, hp, hv⟩ := he.2 H enc w base sp hd n cs' _ h2
          obtain ⟨_, hlen, hcell⟩ := World.cells?_some h1
          refine ⟨l ++ [p], by simp [hl1], ?_, ?_⟩
          · intro x hx'
            rcases List.mem_append.1 hx' with h' | h'
            · exact hl2 x h'
            · rw [List.mem_singleton.1 h']; exact hv
          · intro j q hj
            rcases Nat.lt_or_ge j l.length with hj' | hj'
            · rw [List.getElem?_append_left hj'] at hj
              exact hl3 j q hj
            · have hjk : j = k := by
                have := (List.getElem?_eq_some_iff.1 hj).1
                rw [List.length_append, List.length_singleton] at this
                omega
              subst hjk
              have hq : p = q := by
                rw [List.getElem?_append_right hj'] at hj
                simpa [hl1] using hj
              subst hq
              refine ⟨cs', by rw [hlen, he.1], hp, fun i u hi => ?_⟩
              have hi' : i < P.cellsOf e := by rw [← hlen]; exact (List.getElem?_eq_some_iff.1 hi).1
              have := hcell i hi'
              rw [add_add', he.1] at this
              rw [this, hi]
      obtain ⟨l, hl1, hl2, hl3⟩ := key len (Nat.le_refl _)
      have hm' : len ≤ maxLen := by omega
      unfold maxLen at hm'
      refine ⟨l, ⟨some a, cap, by rw [hl1], by omega, ⟨rfl, by omega, fun _ => ⟨a, rfl, hl3⟩⟩⟩, by rw [hl1]; omega, hl2⟩⟩
theorem opensF_last {P : Program} {fs : Array Field} {i off : Nat} {α : Type} {d : Kd α} {V : α → Prop} (f : Field) (hf : fs[i]? = some f) (ho : f.offset = off) (h : Opens P f.type d V) : OpensF P fs i off d V := by
  intro H enc w base sp hd n cs xs hl hx hlen
  have h1 := hx i f hf
  have hi : i < xs.length := by rw [hl]; exact (Array.getElem?_eq_some_iff.1 hf).1
  rw [List.getElem?_eq_getElem hi, ho, h.1, List.take_of_length_le (by rw [List.length_drop]; omega)] at h1
  exact h.2 H enc w base sp hd n _ _ h1
theorem opensF_cons {P : Program} {fs : Array Field} {i off : Nat} {α β : Type} {a : Kd α} {b : Kd β} {V : α → Prop} {U : β → Prop} (f : Field) (hf : fs[i]? = some f) (ho : f.offset = off) (h : Opens P f.type a V)
    (hr : OpensF P fs (i + 1) (off + a.sz) b U) : OpensF P fs i off (Kd.pair a b) (fun x => V x.1 ∧ U x.2) := by
  intro H enc w base sp hd n cs xs hl hx hlen
  have h1 := hx i f hf
  have hi : i < xs.length := by rw [hl]; exact (Array.getElem?_eq_some_iff.1 hf).1
  rw [List.getElem?_eq_getElem hi, ho, h.1] at h1
  obtain ⟨p, hp, hv⟩ := h.2 H enc w base sp hd n _ _ h1
  have hlen' : cs.length = off + (a.sz + b.sz) := hlen
  obtain ⟨q, hq, hu⟩ := hr H enc w base sp hd n cs xs hl hx (by omega)
  refine ⟨(p, q), ⟨_, _, ?_, hp, hq⟩, hv, hu⟩
  rw [← List.drop_drop, List.take_append_drop]
theorem opens_struct {P : Program} {t : TypeId} {fs : Array Field} {α : Type} {d : Kd α} {V : α → Prop} (ht : P.underlying t = some (.struct fs)) (hc : P.cellsOf t = d.sz) (h : OpensF P fs 0 0 d V) : Opens P t d V :=
  ⟨hc, fun H enc w base sp hd fuel cs x hx => by
    obtain ⟨xs, n, _, _, hl, hlen, hf⟩ := DataW.trod_struct ht hx
    obtain ⟨p, hp, hv⟩ := h H enc w base sp hd n cs xs hlen hf (by rw [hl, hc]; omega)
    exact ⟨p, hp, hv⟩⟩
theorem opens_iso {P : Program} {t : TypeId} {α β : Type} {d : Kd α} {V : α → Prop} (f : β → α) (g : α → β) (hfg : ∀ a, f (g a) = a) (h : Opens P t d V) : Opens P t (Kd.iso d f) (fun b => V (f b)) :=
  ⟨h.1, fun H enc w base sp hd fuel cs x hx => by
    obtain ⟨p, hp, hv⟩ := h.2 H enc w base sp hd fuel cs x hx
    exact ⟨g p, by show d.K w (f (g p)) cs; rw [hfg]; exact hp, by show V (f (g p)); rw [hfg]; exact hv⟩⟩
/-- An argument of any kind: what its value's cells say. -/
theorem open_arg {P : Program} {t : TypeId} {α : Type} {d : Kd α} {V : α → Prop} {H : Type} {enc : TypeId × Value → H} {w : World} {sp : Nat → Bool} {hd : Bool} {v : Value} {x : DataW H} {ps : List MemPlace}
    (ho : Opens P t d V) (h : DataW.Trod enc P w 0 sp hd t v x ps) : ∃ p, d.K w p v.cells.toList ∧ V p := by
  obtain ⟨fuel, hf⟩ := h
  exact ho.2 H enc w 0 sp hd fuel _ _ hf
theorem open_row {P : Program} {t e : TypeId} {α : Type} {d : Kd α} {V : List α → Prop} {H : Type} {enc : TypeId × Value → H} {w : World} {sp : Nat → Bool} {hd : Bool} {a : Option Addr} {len cap : Nat} {x : DataW H} {ps : List MemPlace}
    (ho : Opens P t (Kd.slice e d) V) (h : DataW.Trod enc P w 0 sp hd t (.slice a len cap) x ps) : ∃ p : List α, len = p.length ∧ p.length ≤ cap ∧ d.C w a p.length p ∧ V p := by
  obtain ⟨p, ⟨A, c, hv, hl, hr⟩, hV⟩ := open_arg ho h
  simp [Value.cells] at hv
  obtain ⟨rfl, rfl, rfl⟩ := hv
  exact ⟨p, rfl, hl, hr, hV⟩
end Go.Proofs.Ytpooejjgaobcaaa.OPN
