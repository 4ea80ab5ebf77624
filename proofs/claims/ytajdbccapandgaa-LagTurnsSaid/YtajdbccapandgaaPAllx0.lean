-- Written by a program of this session, after the kit's print
import Derived.Test.YtajdbccapandgaaProg
import Derived.Below
import Derived.Deep.Draws
import Derived.Deep.AppendLies
import Derived.Maps.AppendAt
import Derived.OwnWalk
import Derived.Laws.BytesArg
import Derived.Laws.MakeOwn
import Derived.Laws.OwnMore
import Derived.Deep.OwnRows
import Derived.Tactics
import Derived.Lib.ConvBytes
import Derived.Laws.Slices
import Derived.WalkKit
import Derived.KernelRfl
import Derived.RowKit3
import Derived.Deep.LoopGhost
import Derived.Deep.QuietTactic
import Derived.BigQuiet
import Derived.WideLaws
import Derived.Deep.DeepCutAuto
import Derived.Deep.CutBlock
import Derived.Deep.RegionHeld3
import Derived.Laws.Rows
import Derived.Lib.AppendStr
import Derived.ArgAppend
import Derived.Laws.IdiomCopy
import Derived.OrdersHeld
import Derived.Laws.BitsLemmas
import Derived.RowKit
import Derived.BigRegion
import Derived.Lib.SliceRun
import Derived.Test.YtajdbccapandgaaWWords
import Derived.Test.YtajdbccapandgaaWLast
import Derived.Test.YtajdbccapandgaaWTab
import Derived.Test.YtajdbccapandgaaWFour
import Derived.Test.YtajdbccapandgaaWQPut
import Derived.Test.YtajdbccapandgaaWApart
import Derived.Test.YtajdbccapandgaaWArr
import Derived.Test.YtajdbccapandgaaWZeros
import Derived.Test.YtajdbccapandgaaWFoot
import Derived.Test.YtajdbccapandgaaWKept
import Derived.Test.YtajdbccapandgaaWShare
import Derived.Test.YtajdbccapandgaaWN
import Derived.Test.YtajdbccapandgaaWFootNe
import Derived.Test.YtajdbccapandgaaWAt
import Derived.Test.YtajdbccapandgaaWEqStruct
import Derived.Test.YtajdbccapandgaaWRepsOne
import Derived.Test.YtajdbccapandgaaWInv
import Derived.Test.YtajdbccapandgaaWInvWords
import Derived.Test.YtajdbccapandgaaWGuard
import Derived.Test.YtajdbccapandgaaWNEv
import Derived.Test.YtajdbccapandgaaWMore
namespace Go.Proofs.Ytajdbccapandgaa.PAll
open Go.RowKit Go.Proofs.YtajdbccapandgaaW.PrintWords Go.Proofs.YtajdbccapandgaaW.PrintLast Go.Proofs.YtajdbccapandgaaW.PrintMore
attribute [local go_sem] max2_int min2_int max_two min_two max_three min_three max_four min_four   -- for this text's walks alone
set_option linter.unusedVariables false
set_option linter.unusedSimpArgs false



def errW : Option Int → Value
  | none => .nilIface
  | some c => .iface 0 (.int .i64 c)
theorem errW_none : errW none = .nilIface := rfl
theorem errW_some (c : Int) : errW (some c) = .iface 0 (.int .i64 c) := rfl

theorem R_cells64 {w : World} {base : Nat} {ok : Nat → Prop} {v : Value} {xs : List Int} {e : Nat} (h : Kd.R (Kd.int .i64) e w base ok v xs) :
    (v = .slice none 0 0 ∧ xs = []) ∨ ∃ g cap, v = .slice (some ⟨g, 0, none⟩) xs.length cap ∧ xs.length ≤ cap ∧ ∀ j u, (xs.map (Value.int .i64))[j]? = some u → w.cell? ((⟨g, 0, none⟩ : Addr).add j) = some u := by
  rcases Nat.eq_zero_or_pos xs.length with h0 | h0
  · obtain ⟨inner, ho, hrep⟩ := h.2
    obtain rfl : xs = [] := List.eq_nil_of_length_eq_zero h0
    rcases ho.2 with ⟨hv, _⟩ | ⟨g, cap, cur, hv, _, _, hle, _⟩
    · exact .inl ⟨hv, rfl⟩
    · exact .inr ⟨g, cap, hv, hle, by simp⟩
  · obtain ⟨g, cap, rfl, _⟩ := Kd.R_form h h0
    obtain ⟨_, hle, hc⟩ := Kd.R_reads' h
    refine .inr ⟨g, cap, rfl, hle, fun j u hj => ?_⟩
    obtain ⟨ad, e, hcell⟩ := hc.2.2 h0
    injection e with e
    subst e
    rw [List.getElem?_map] at hj
    cases hx : xs[j]? with
    | none => rw [hx] at hj; cases hj
    | some x =>
      rw [hx] at hj
      injection hj with hj
      subst hj
      obtain ⟨c, hl, hk, hcc⟩ := hcell j x hx
      have hc1 : c = [Value.int .i64 x] := hk
      subst hc1
      have := hcc 0 (.int .i64 x) rfl
      simpa [Kd.int, Kd.scalar] using this

theorem R_made64 {w1 : World} {base B e : Nat} {ok : Nat → Prop} {v : Value} {xs : List Int} {n : Nat} {ys : List Value} (h : w1.ownsRow B e 1 v n ys) (hn : n = xs.length) (hy : ys = xs.map (Value.int .i64)) (hB : base ≤ B) (hok : ∀ k, B ≤ k → ok k) : Kd.R (Kd.int .i64) e w1 base ok v xs := by
  subst hn hy
  refine Kd.R_lower (base := B) (Kd.R_of_own h (fun k hk => hok k (own_base h k hk))) hB

theorem info3 : (Try.prog.info? 3).map (fun i => (i.zero, i.size, i.bytes)) = some (some (.int .i64 0), 1, 8) := by kernel_rfl
theorem info24 : (Try.prog.info? 24).map (fun i => (i.zero, i.size, i.bytes)) = some (some (.slice none 0 0), 1, 24) := by kernel_rfl
theorem info39 : (Try.prog.info? 39).map (fun i => (i.zero, i.size, i.bytes)) = some (some (.agg #[(.int .i64 0), (.int .i64 0)]), 2, 16) := by kernel_rfl
-- the values' own types
/-! #### struct type 39 -/
structure S39 where
  f0 : Int
  f1 : Int
def z39 : S39 := ⟨(0 : Int), (0 : Int)⟩
def k39 : Kd S39 := Kd.iso (Kd.pair (Kd.int .i64) (Kd.int .i64)) (fun x : S39 => (x.f0, x.f1))
theorem k39_open {w : World} {x : S39} {cs : List Value} (h : k39.K w x cs) : cs = [.int .i64 x.f0, .int .i64 x.f1] := by
  obtain ⟨_, _, rfl, rfl, rfl⟩ := h
  exact rfl
theorem k39_openM {w : World} {base : Nat} {ok : Nat → Prop} {x : S39} {cs : List Value} (h : k39.M w base ok x cs) : cs = [.int .i64 x.f0, .int .i64 x.f1] := by
  obtain ⟨_, _, rfl, rfl, rfl⟩ := h
  exact rfl
theorem k39_mk (w : World) (x : S39)  : k39.K w x [.int .i64 x.f0, .int .i64 x.f1] := ⟨[.int .i64 x.f0], [.int .i64 x.f1], rfl, rfl, rfl⟩
theorem k39_mkM (w : World) (base : Nat) (ok : Nat → Prop) (x : S39)  : k39.M w base ok x [.int .i64 x.f0, .int .i64 x.f1] := ⟨[.int .i64 x.f0], [.int .i64 x.f1], rfl, rfl, rfl⟩
theorem k39_mkF (W : World) (ok : Nat → Prop) (x : S39) : Kd.FK k39 W ok x [.int .i64 x.f0, .int .i64 x.f1] := fun W2 _ => k39_mk W2 x
def rd_T39 (xs : List S39) (i : Int) : S39 := xs.getD i.toNat z39
theorem at_T39 {w : World} {A : Option Addr} {n : Nat} {xs : List S39} (h : Kd.C k39 w A n xs) (i : Int) (h0 : 0 ≤ i) (h1 : i < n) : ∃ ad , A = some ad ∧ w.cell? (ad.add (i.toNat * 2)) = some (.int .i64 (rd_T39 xs i).f0) ∧ w.cell? ⟨(ad.add (i.toNat * 2)).block, (ad.add (i.toNat * 2)).off + 1, none⟩ = some (.int .i64 (rd_T39 xs i).f1) := by
  obtain ⟨ad, c, e, _, hK, hc0⟩ := Kd.C_get h z39 i h0 h1
  have hc : ∀ j u, c[j]? = some u → w.cell? (ad.add (i.toNat * 2 + j)) = some u := hc0
  obtain rfl := k39_open hK
  exact ⟨ad, e, hc 0 _ rfl, by rw [← add_field _ _ 1 (by omega)]; exact hc 1 _ rfl⟩

def rd_L2 (xs : List (List S39)) (i : Int) : (List S39) := xs.getD i.toNat ([] : List S39)
theorem at_L2 {w : World} {A : Option Addr} {n : Nat} {xs : List (List S39)} (h : Kd.C (Kd.slice 39 k39) w A n xs) (i : Int) (h0 : 0 ≤ i) (h1 : i < n) : ∃ ad A0 c0, A = some ad ∧ w.cell? (ad.add i.toNat) = some (.slice A0 (rd_L2 xs i).length c0) ∧ (rd_L2 xs i).length ≤ c0 ∧ k39.C w A0 (rd_L2 xs i).length (rd_L2 xs i) := by
  obtain ⟨ad, c, e, _, hK, hc0⟩ := Kd.C_get h ([] : List S39) i h0 h1
  have hc : ∀ j u, c[j]? = some u → w.cell? (ad.add (i.toNat * 1 + j)) = some u := hc0
  obtain ⟨A0, c0, rfl, l0, g0⟩ := hK
  exact ⟨ad, A0, c0, e, by have hq := hc 0 _ rfl; rwa [Nat.mul_one, Nat.add_zero] at hq, l0, g0⟩

end Go.Proofs.Ytajdbccapandgaa.PAll
