/- The reference's functions, told as bare definitions, for statements that do not run them. -/
import Derived.Test.YtbeidonfmeengaaPAllx6
import Derived.Test.YtbeidonfmeengaaPAllx8
set_option linter.unusedVariables false
namespace Go.Proofs.Ytbeidonfmeengaa.PAll
open Go Go.RowKit Go.Proofs.YtbeidonfmeengaaW.PrintWords Go.Proofs.YtbeidonfmeengaaW.PrintLast
/-! ### fringeref11_at: function 42 -/
def fringeref11_at.f (a0 : Int) (a1 : Int) : Option (Int) := if a1 = 0 then (none) else (if (Int.tmod a0 a1) < 0 then (some (wrap64 ((Int.tmod a0 a1) + a1))) else (some (Int.tmod a0 a1)))
/-! ### fringeref10_Power: function 51 -/
def fringeref10_Power.l0 : Nat → Int → Int → Int → Int → Option (Int)
  | 0, _, _, _, _ => none
  | k + 1, x0, x1, x2, x7 => if x2 > 0 then (if (Int.tmod x2 2) = 1 then (if x0 = 0 then (none) else (fringeref10_Power.l0 k x0 (Int.tmod (wrap64 (x1 * x1)) x0) (wrap64 (Int.tdiv x2 2)) (Int.tmod (wrap64 (x7 * x1)) x0))) else (if x0 = 0 then (none) else (fringeref10_Power.l0 k x0 (Int.tmod (wrap64 (x1 * x1)) x0) (wrap64 (Int.tdiv x2 2)) x7))) else (some x7)
def fringeref10_Power.f (k : Nat) (a0 : Int) (a1 : Int) (a2 : Int) : Option (Int) := fringeref10_Power.l0 k a0 a1 a2 1
/-! ### fringeref10_order: function 62 -/
def fringeref10_order.l0 : Nat → Int → Int → Int → List Int → Int → Option (Int)
  | 0, _, _, _, _, _ => none
  | k + 1, x0, x1, x5, x6, x8 => if x8 < (x6.length : Int) then (if 0 ≤ x8 then (if (rd x6 x8) = 0 then (none) else ((fringeref10_Power.f k x0 x1 (wrap64 (Int.tdiv x5 (rd x6 x8)))).bind fun t141 => (if t141 = 1 then (fringeref10_order.l0 k x0 x1 (wrap64 (Int.tdiv x5 (rd x6 x8))) x6 (wrap64 (x8 + 1))) else (fringeref10_order.l0 k x0 x1 x5 x6 (wrap64 (x8 + 1)))))) else (none)) else (some x5)
def fringeref10_order.f (k : Nat) (a0 : Int) (a1 : Int) : Option (Int) := (fringeref10_Factors.f k (wrap64 (a0 - 1))).bind fun bt136 => (fringeref10_order.l0 k a0 a1 (wrap64 (a0 - 1)) bt136.1 0)
/-! ### fringeref10_generator: function 60 -/
def fringeref10_generator.l0 : Nat → Int → Int → Option (Int)
  | 0, _, _ => none
  | k + 1, x0, x3 => (fringeref10_order.f k x0 x3).bind fun t143 => (if t143 = (wrap64 (x0 - 1)) then (some x3) else (fringeref10_generator.l0 k x0 (wrap64 (x3 + 1))))
def fringeref10_generator.f (k : Nat) (a0 : Int) : Option (Int) := fringeref10_generator.l0 k a0 1
/-! ### fringeref10_Root: function 56 -/
def fringeref10_Root.f (k : Nat) (a0 : Int) (a1 : Int) : Option (Int × Int) := (fringeref10_Check.f k a0).bind fun t144 => (if t144 = 0 then (if a1 < 1 then (some (0, 2)) else (if a1 = 0 then (none) else (if (Int.tmod (wrap64 (a0 - 1)) a1) = 0 then ((fringeref10_generator.f k a0).bind fun t146 => ((fringeref10_Power.f k a0 t146 (wrap64 (Int.tdiv (wrap64 (a0 - 1)) a1))).bind fun t147 => (some (t147, 0)))) else (some (0, 6))))) else ((fringeref10_Check.f k a0).bind fun t145 => (some (0, t145))))
/-! ### fringeref11_powers: function 57 -/
def fringeref11_powers.l0 : Nat → Int → Int → Int → List Int → Option (List Int)
  | 0, _, _, _, _ => none
  | k + 1, x0, x1, x2, x7 => if (x7.length : Int) < x2 then (if 0 ≤ (wrap64 ((x7.length : Int) - 1)) then (if (wrap64 ((x7.length : Int) - 1)) < (x7.length : Int) then (if x0 = 0 then (none) else (if x7.length < 17592186044416 then (fringeref11_powers.l0 k x0 x1 x2 (x7 ++ [Int.tmod (wrap64 ((rd x7 (wrap64 ((x7.length : Int) - 1))) * x1)) x0])) else (none))) else (none)) else (none)) else (some x7)
def fringeref11_powers.f (k : Nat) (a0 : Int) (a1 : Int) (a2 : Int) : Option (List Int) := fringeref11_powers.l0 k a0 a1 a2 (([1] : List Int))
/-! ### fringeref11_root: function 45 -/
def fringeref11_root.f (k : Nat) (a0 : Int) (a1 : Int) : Option (List Int) := (fringeref10_Root.f k a0 a1).bind fun bt155 => ((fringeref11_powers.f k a0 bt155.1 a1).bind fun t157 => (some t157))
/-! ### fringeref11_sums: function 33 -/
mutual
def fringeref11_sums.l0 : Nat → Int → List Int → Bool → Int → List Int → List Int → Int → Option (List Int)
  | 0, _, _, _, _, _, _, _ => none
  | k + 1, x0, x1, x2, x7, x8, x9, x10 => if x10 < x7 then (fringeref11_sums.l1 k x0 x1 x2 x7 x8 x9 x10 0 0) else (some x9)
def fringeref11_sums.l1 : Nat → Int → List Int → Bool → Int → List Int → List Int → Int → Int → Int → Option (List Int)
  | 0, _, _, _, _, _, _, _, _, _ => none
  | k + 1, x0, x1, x2, x7, x8, x9, x10, x11, x12 => if x12 < x7 then (if x2 = true then (if 0 ≤ x12 then (if x12 < (x1.length : Int) then ((fringeref11_at.f (wrap64 (-(wrap64 (x12 * x10)))) x7).bind fun t164 => (if 0 ≤ t164 then (if t164 < (x8.length : Int) then (if x0 = 0 then (none) else (fringeref11_sums.l1 k x0 x1 x2 x7 x8 x9 x10 (Int.tmod (wrap64 (x11 + (wrap64 ((rd x1 x12) * (rd x8 t164))))) x0) (wrap64 (x12 + 1)))) else (none)) else (none))) else (none)) else (none)) else (if 0 ≤ x12 then (if x12 < (x1.length : Int) then ((fringeref11_at.f (wrap64 (x12 * x10)) x7).bind fun t167 => (if 0 ≤ t167 then (if t167 < (x8.length : Int) then (if x0 = 0 then (none) else (fringeref11_sums.l1 k x0 x1 x2 x7 x8 x9 x10 (Int.tmod (wrap64 (x11 + (wrap64 ((rd x1 x12) * (rd x8 t167))))) x0) (wrap64 (x12 + 1)))) else (none)) else (none))) else (none)) else (none))) else (if x9.length < 17592186044416 then (fringeref11_sums.l0 k x0 x1 x2 x7 x8 (x9 ++ [x11]) (wrap64 (x10 + 1))) else (none))
end
def fringeref11_sums.f (k : Nat) (a0 : Int) (l1 : List Int) (a2 : Bool) : Option (List Int) := (fringeref11_root.f k a0 (l1.length : Int)).bind fun t160 => (fringeref11_sums.l0 k a0 l1 a2 (l1.length : Int) t160 ([] : List Int) 0)
/-! ### fringeref11_Forward: function 12 -/
def fringeref11_Forward.f (k : Nat) (a0 : Int) (l1 : List Int) : Option (List Int × Int) := (fringeref11_Check.f k a0 l1).bind fun t172 => (if t172 = 0 then ((fringeref11_sums.f k a0 l1 false).bind fun t173 => (some (t173, 0))) else ((fringeref11_Check.f k a0 l1).bind fun t176 => (some (([] : List Int), t176))))
/-! ### fringeref10_Both: function 50 -/
def fringeref10_Both.f (k : Nat) (a0 : Int) (a1 : Int) : Option (Int) := (fringeref10_Check.f k a0).bind fun t193 => (if t193 = 0 then (if a1 < 0 then (some 8) else (if a1 ≥ a0 then (some 8) else (some 0))) else (some 2))
/-! ### fringeref10_Inv: function 35 -/
def fringeref10_Inv.f (k : Nat) (a0 : Int) (a1 : Int) : Option (Int × Int) := (fringeref10_Both.f k a0 a1).bind fun t194 => (if t194 = 0 then (if a1 = 0 then (some (0, 18)) else ((fringeref10_Power.f k a0 a1 (wrap64 (a0 - 2))).bind fun t195 => (some (t195, 0)))) else ((fringeref10_Both.f k a0 a1).bind fun t196 => (some (0, t196))))
/-! ### fringeref11_Back: function 14 -/
def fringeref11_Back.l0 : Nat → Int → List Int → Int → Int → Option (List Int × Int)
  | 0, _, _, _, _ => none
  | k + 1, x0, x6, x7, x9 => if x9 < (x6.length : Int) then (if 0 ≤ x9 then (if x0 = 0 then (none) else (fringeref11_Back.l0 k x0 (x6.set (x9 : Int).toNat (Int.tmod (wrap64 ((rd x6 x9) * x7)) x0)) x7 (wrap64 (x9 + 1)))) else (none)) else (some (x6, 0))
def fringeref11_Back.f (k : Nat) (a0 : Int) (l1 : List Int) : Option (List Int × Int) := (fringeref11_Check.f k a0 l1).bind fun t197 => (if t197 = 0 then ((fringeref11_sums.f k a0 l1 true).bind fun t199 => (if a0 = 0 then (none) else ((fringeref10_Inv.f k a0 ((l1.length : Int) % a0)).bind fun bt202 => (fringeref11_Back.l0 k a0 t199 bt202.1 0)))) else ((fringeref11_Check.f k a0 l1).bind fun t198 => (some (([] : List Int), t198))))
/-! ### fringeref11_Convolve: function 16 -/
mutual
def fringeref11_Convolve.l0 : Nat → Int → List Int → List Int → List Int → Int → Option (List Int × Int)
  | 0, _, _, _, _, _ => none
  | k + 1, x0, x1, x2, x8, x9 => if x9 < (x1.length : Int) then (fringeref11_Convolve.l1 k x0 x1 x2 x8 x9 0) else (some (x8, 0))
def fringeref11_Convolve.l1 : Nat → Int → List Int → List Int → List Int → Int → Int → Option (List Int × Int)
  | 0, _, _, _, _, _, _ => none
  | k + 1, x0, x1, x2, x8, x9, x10 => if x10 < (x2.length : Int) then (if (x1.length : Int) = 0 then (none) else (if 0 ≤ (Int.tmod (wrap64 (x9 + x10)) (x1.length : Int)) then (if (Int.tmod (wrap64 (x9 + x10)) (x1.length : Int)) < (x8.length : Int) then (if 0 ≤ x9 then (if x9 < (x1.length : Int) then (if 0 ≤ x10 then (if x0 = 0 then (none) else (fringeref11_Convolve.l1 k x0 x1 x2 (x8.set ((Int.tmod (wrap64 (x9 + x10)) (x1.length : Int)) : Int).toNat (Int.tmod (wrap64 ((rd x8 (Int.tmod (wrap64 (x9 + x10)) (x1.length : Int))) + (wrap64 ((rd x1 x9) * (rd x2 x10))))) x0)) x9 (wrap64 (x10 + 1)))) else (none)) else (none)) else (none)) else (none)) else (none))) else (fringeref11_Convolve.l0 k x0 x1 x2 x8 (wrap64 (x9 + 1)))
end
def fringeref11_Convolve.f (k : Nat) (a0 : Int) (l1 : List Int) (l2 : List Int) : Option (List Int × Int) := (fringeref11_Both.f k a0 l1 l2).bind fun t224 => (if t224 = 0 then (if (l1.length : Int) = (l2.length : Int) then (if 0 ≤ (l1.length : Int) then (if ((l1.length : Int) : Int).toNat ≤ 35184372088832 then (fringeref11_Convolve.l0 k a0 l1 l2 (List.replicate ((l1.length : Int) : Int).toNat 0) 0) else (none)) else (none)) else (some (([] : List Int), 2))) else ((fringeref11_Both.f k a0 l1 l2).bind fun t225 => (some (([] : List Int), t225))))
/-! ### fringeref11_Turn: function 21 -/
def fringeref11_Turn.l0 : Nat → List Int → Int → List Int → Int → Option (List Int × Int)
  | 0, _, _, _, _ => none
  | k + 1, x1, x2, x8, x9 => if x9 < (x1.length : Int) then ((fringeref11_at.f x2 (x1.length : Int)).bind fun t275 => ((fringeref11_at.f (wrap64 (x9 - t275)) (x1.length : Int)).bind fun t276 => (if 0 ≤ t276 then (if t276 < (x1.length : Int) then (if x8.length < 17592186044416 then (fringeref11_Turn.l0 k x1 x2 (x8 ++ [rd x1 t276]) (wrap64 (x9 + 1))) else (none)) else (none)) else (none)))) else (some (x8, 0))
def fringeref11_Turn.f (k : Nat) (a0 : Int) (l1 : List Int) (a2 : Int) : Option (List Int × Int) := (fringeref11_Check.f k a0 l1).bind fun t273 => (if t273 = 0 then (fringeref11_Turn.l0 k l1 a2 ([] : List Int) 0) else ((fringeref11_Check.f k a0 l1).bind fun t274 => (some (([] : List Int), t274))))
/-! ### fringeref11_Phase: function 23 -/
def fringeref11_Phase.l0 : Nat → Int → List Int → Int → List Int → List Int → Int → Option (List Int × Int)
  | 0, _, _, _, _, _, _ => none
  | k + 1, x0, x1, x2, x8, x9, x10 => if x10 < (x1.length : Int) then (if 0 ≤ x10 then ((fringeref11_at.f x2 (x1.length : Int)).bind fun t304 => ((fringeref11_at.f (wrap64 (t304 * x10)) (x1.length : Int)).bind fun t305 => (if 0 ≤ t305 then (if t305 < (x8.length : Int) then (if x0 = 0 then (none) else (if x9.length < 17592186044416 then (fringeref11_Phase.l0 k x0 x1 x2 x8 (x9 ++ [Int.tmod (wrap64 ((rd x1 x10) * (rd x8 t305))) x0]) (wrap64 (x10 + 1))) else (none))) else (none)) else (none)))) else (none)) else (some (x9, 0))
def fringeref11_Phase.f (k : Nat) (a0 : Int) (l1 : List Int) (a2 : Int) : Option (List Int × Int) := (fringeref11_Check.f k a0 l1).bind fun t298 => (if t298 = 0 then ((fringeref11_root.f k a0 (l1.length : Int)).bind fun t300 => (fringeref11_Phase.l0 k a0 l1 a2 t300 ([] : List Int) 0)) else ((fringeref11_Check.f k a0 l1).bind fun t299 => (some (([] : List Int), t299))))
/-! ### fringeref11_Center: function 46 -/
def fringeref11_Center.f (a0 : Int) (a1 : Int) : Option (Int) := if (wrap64 (2 * a1)) > a0 then (some (wrap64 (a1 - a0))) else (some a1)
/-! ### fringeref11_Signed: function 25 -/
def fringeref11_Signed.l0 : Nat → Int → List Int → List Int → Int → Option (List Int × Int)
  | 0, _, _, _, _ => none
  | k + 1, x0, x1, x6, x7 => if x7 < (x1.length : Int) then (if 0 ≤ x7 then ((fringeref11_Center.f x0 (rd x1 x7)).bind fun t319 => (if x6.length < 17592186044416 then (fringeref11_Signed.l0 k x0 x1 (x6 ++ [t319]) (wrap64 (x7 + 1))) else (none))) else (none)) else (some (x6, 0))
def fringeref11_Signed.f (k : Nat) (a0 : Int) (l1 : List Int) : Option (List Int × Int) := (fringeref11_Check.f k a0 l1).bind fun t316 => (if t316 = 0 then (fringeref11_Signed.l0 k a0 l1 ([] : List Int) 0) else ((fringeref11_Check.f k a0 l1).bind fun t317 => (some (([] : List Int), t317))))
/-! ### fringeref11_Reduce: function 27 -/
mutual
def fringeref11_Reduce.l0 : Nat → Int → List Int → Int → Option (List Int × Int)
  | 0, _, _, _ => none
  | k + 1, x0, x1, x6 => if x6 < (x1.length : Int) then (if 0 ≤ x6 then (if (rd x1 x6) < (wrap64 (-x0)) then (some (([] : List Int), 8)) else (if (rd x1 x6) > x0 then (some (([] : List Int), 8)) else (fringeref11_Reduce.l0 k x0 x1 (wrap64 (x6 + 1))))) else (none)) else (fringeref11_Reduce.l1 k x0 x1 ([] : List Int) 0)
def fringeref11_Reduce.l1 : Nat → Int → List Int → List Int → Int → Option (List Int × Int)
  | 0, _, _, _, _ => none
  | k + 1, x0, x1, x7, x8 => if x8 < (x1.length : Int) then (if 0 ≤ x8 then (if x0 = 0 then (none) else (if x7.length < 17592186044416 then (fringeref11_Reduce.l1 k x0 x1 (x7 ++ [Int.tmod (wrap64 ((rd x1 x8) + x0)) x0]) (wrap64 (x8 + 1))) else (none))) else (none)) else (some (x7, 0))
end
def fringeref11_Reduce.f (k : Nat) (a0 : Int) (l1 : List Int) : Option (List Int × Int) := (fringeref10_Check.f k a0).bind fun t328 => (if t328 = 0 then (if (l1.length : Int) > 1000 then (some (([] : List Int), 4)) else (fringeref11_Reduce.l0 k a0 l1 0)) else (some (([] : List Int), 2)))
end Go.Proofs.Ytbeidonfmeengaa.PAll
