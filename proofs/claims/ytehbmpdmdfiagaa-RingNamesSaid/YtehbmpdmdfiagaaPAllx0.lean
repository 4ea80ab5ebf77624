-- Written by a program of this session, after the kit's print
import Derived.Test.YtehbmpdmdfiagaaProg
import Derived.Below
import Derived.Deep.Draws
import Derived.Deep.AppendLies
import Derived.Maps.AppendAt
import Derived.OwnWalk
import Derived.Laws.BytesArg
import Derived.Laws.MakeOwn
import Derived.Laws.OwnMore
import Derived.Deep.OwnRows
import Derived.Tactics
import Derived.Lib.ConvBytes
import Derived.Laws.Slices
import Derived.WalkKit
import Derived.KernelRfl
import Derived.RowKit3
import Derived.Deep.LoopGhost
import Derived.Deep.QuietTactic
import Derived.BigQuiet
import Derived.WideLaws
import Derived.Deep.DeepCutAuto
import Derived.Deep.CutBlock
import Derived.Deep.RegionHeld3
import Derived.Laws.Rows
import Derived.Lib.AppendStr
import Derived.ArgAppend
import Derived.Laws.IdiomCopy
import Derived.OrdersHeld
import Derived.Laws.BitsLemmas
import Derived.RowKit
import Derived.BigRegion
import Derived.Lib.SliceRun
import Derived.Deep.RegionLaw
import Derived.Test.YtehbmpdmdfiagaaWWords
import Derived.Test.YtehbmpdmdfiagaaWLast
import Derived.Test.YtehbmpdmdfiagaaWTab
import Derived.Test.YtehbmpdmdfiagaaWFour
import Derived.Test.YtehbmpdmdfiagaaWQPut
import Derived.Test.YtehbmpdmdfiagaaWApart
import Derived.Test.YtehbmpdmdfiagaaWArr
import Derived.Test.YtehbmpdmdfiagaaWZeros
import Derived.Test.YtehbmpdmdfiagaaWFoot
import Derived.Test.YtehbmpdmdfiagaaWKept
import Derived.Test.YtehbmpdmdfiagaaWShare
import Derived.Test.YtehbmpdmdfiagaaWN
import Derived.Test.YtehbmpdmdfiagaaWFootNe
import Derived.Test.YtehbmpdmdfiagaaWAt
import Derived.Test.YtehbmpdmdfiagaaWEqStruct
import Derived.Test.YtehbmpdmdfiagaaWRepsOne
import Derived.Test.YtehbmpdmdfiagaaWInv
import Derived.Test.YtehbmpdmdfiagaaWInvWords
import Derived.Test.YtehbmpdmdfiagaaWGuard
import Derived.Test.YtehbmpdmdfiagaaWNEv
import Derived.Test.YtehbmpdmdfiagaaWMore
namespace Go.Proofs.Ytehbmpdmdfiagaa.PAll
open Go.RowKit Go.Proofs.YtehbmpdmdfiagaaW.PrintWords Go.Proofs.YtehbmpdmdfiagaaW.PrintLast Go.Proofs.YtehbmpdmdfiagaaW.PrintMore
attribute [local go_sem] max2_int min2_int max_two min_two max_three min_three max_four min_four   -- for this text's walks alone
set_option linter.unusedVariables false
set_option linter.unusedSimpArgs false



def errW : Option Int → Value
  | none => .nilIface
  | some c => .iface 0 (.int .i64 c)
theorem errW_none : errW none = .nilIface := rfl
theorem errW_some (c : Int) : errW (some c) = .iface 0 (.int .i64 c) := rfl

theorem R_cells64 {w : World} {base : Nat} {ok : Nat → Prop} {v : Value} {xs : List Int} {e : Nat} (h : Kd.R (Kd.int .i64) e w base ok v xs) :
    (v = .slice none 0 0 ∧ xs = []) ∨ ∃ g cap, v = .slice (some ⟨g, 0, none⟩) xs.length cap ∧ xs.length ≤ cap ∧ ∀ j u, (xs.map (Value.int .i64))[j]? = some u → w.cell? ((⟨g, 0, none⟩ : Addr).add j) = some u := by
  rcases Nat.eq_zero_or_pos xs.length with h0 | h0
  · obtain ⟨inner, ho, hrep⟩ := h.2
    obtain rfl : xs = [] := List.eq_nil_of_length_eq_zero h0
    rcases ho.2 with ⟨hv, _⟩ | ⟨g, cap, cur, hv, _, _, hle, _⟩
    · exact .inl ⟨hv, rfl⟩
    · exact .inr ⟨g, cap, hv, hle, by simp⟩
  · obtain ⟨g, cap, rfl, _⟩ := Kd.R_form h h0
    obtain ⟨_, hle, hc⟩ := Kd.R_reads' h
    refine .inr ⟨g, cap, rfl, hle, fun j u hj => ?_⟩
    obtain ⟨ad, e, hcell⟩ := hc.2.2 h0
    injection e with e
    subst e
    rw [List.getElem?_map] at hj
    cases hx : xs[j]? with
    | none => rw [hx] at hj; cases hj
    | some x =>
      rw [hx] at hj
      injection hj with hj
      subst hj
      obtain ⟨c, hl, hk, hcc⟩ := hcell j x hx
      have hc1 : c = [Value.int .i64 x] := hk
      subst hc1
      have := hcc 0 (.int .i64 x) rfl
      simpa [Kd.int, Kd.scalar] using this

theorem R_made64 {w1 : World} {base B e : Nat} {ok : Nat → Prop} {v : Value} {xs : List Int} {n : Nat} {ys : List Value} (h : w1.ownsRow B e 1 v n ys) (hn : n = xs.length) (hy : ys = xs.map (Value.int .i64)) (hB : base ≤ B) (hok : ∀ k, B ≤ k → ok k) : Kd.R (Kd.int .i64) e w1 base ok v xs := by
  subst hn hy
  refine Kd.R_lower (base := B) (Kd.R_of_own h (fun k hk => hok k (own_base h k hk))) hB

section
variable {P : Program} {ops : Array Oper} {Q : Exit → Act → World → Prop}
/-- A call of a function value that is known, in a region. -/
theorem goesV_ (f : FuncId) {oi : Oper} {N : Option Tmp} {a : Act} {w : World} {K : Act → World → Prop} {fn : Func} {x : Operand} {os_ : Array Operand} {ts : Array TypeId} (hf : P.funcs[f]? = some fn) (hname : (fn.name == "runtime.NumGoroutine") = false) (hb : fn.body.isSome = true) (args : Array Value)
    (hw : Region.wanted oi (yielded ops a.tmps) = true) (hN : oi.dst = N) (hop : oi.op = .call { callee := .value x, args := os_, argTypes := ts }) (hargs : os_.map a.eval = args)
    (h : Calls P f args w fun e w' => ∃ v, e = .returned v ∧ K (a.put N v) w') (hx : a.eval x = .func (.func f) #[] #[] := by rfl) : if Region.wanted oi (yielded ops a.tmps) = true then Oper.wp P oi a w K Q else K (a.put N undef) w := by
  refine call_ f args hw hN ?_ h
  have he := enters_ hf hname hb args w
  unfold execOp
  simp [hop, hx, resolve, Deferred.ofValue, invoke, hargs, he]
/-- The same in a plain region. -/
theorem goesLV_ (f : FuncId) {rest : List Oper} {oi : Oper} {a : Act} {w : World} (N : Option Tmp) (hd : oi.dst = N) (hg : oi.guard = none) {fn : Func} {x : Operand} {os_ : Array Operand} {ts : Array TypeId} (hf : P.funcs[f]? = some fn) (hname : (fn.name == "runtime.NumGoroutine") = false) (hb : fn.body.isSome = true) (args : Array Value)
    (hop : oi.op = .call { callee := .value x, args := os_, argTypes := ts }) (hargs : os_.map a.eval = args)
    (h : Calls P f args w fun e w' => ∃ v, e = .returned v ∧ wpList P ops Q rest (a.put N v) w') (hx : a.eval x = .func (.func f) #[] #[] := by rfl) : wpList P ops Q (oi :: rest) a w := by
  refine wpList_plain hg fun K hK => ?_
  have he := enters_ hf hname hb args w
  have hrun : (execOp a.eval oi).run P w = .ok (.enter f args) w := by
    unfold execOp
    simp [hop, hx, resolve, Deferred.ofValue, invoke, hargs, he]
  unfold Oper.wp
  rw [hrun, Oper.upon_enter]
  refine h.mono fun e w'' hh => ?_
  obtain ⟨v, rfl, hk⟩ := hh
  subst hd
  exact hK _ _ hk
end

theorem info2 : (Try.prog.info? 2).map (fun i => (i.zero, i.size, i.bytes)) = some (some (.int .i64 0), 1, 8) := by kernel_rfl
-- the values' own types

end Go.Proofs.Ytehbmpdmdfiagaa.PAll
