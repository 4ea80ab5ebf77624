/- The pieces of a stream: the reference's loop comes to them. -/
import Derived.Test.YtbopgopggnagpaaMX
import Derived.Test.YtbopgopggnagpaaPAllx17
import Derived.Test.YtbopgopggnagpaaPAllx30
import Derived.Test.YtbopgopggnagpaaPAllx31
set_option linter.unusedVariables false
set_option linter.unusedSimpArgs false
namespace Go.Proofs.Ytbopgopggnagpaa.XS
open Go Go.RowKit Go.Proofs.Ytbopgopggnagpaa.PAll Go.Proofs.YtbopgopggnagpaaW.PrintWords Go.Proofs.YtbopgopggnagpaaW.PrintLast RM FM Go.Proofs.Ytbopgopggnagpaa.RL Go.Proofs.Ytbopgopggnagpaa.FL CX
open Go.Proofs.Ytbopgopggnagpaa.LG (chk chk_str okd_iff sample_Check_eq refCheck_ev)

def Qp (l : List Int) (c : Nat) : List (List Int) := (List.range c).map fun j => (l.drop (32 * j)).take 32
theorem Qp_succ (l : List Int) (c : Nat) : Qp l (c + 1) = Qp l c ++ [(l.drop (32 * c)).take 32] := by simp [Qp, List.range_succ]
theorem Qp_length (l : List Int) (c : Nat) : (Qp l c).length = c := by simp [Qp]
def Sp (l : List Int) (c r : Nat) : List (List Int) := if r = 0 then Qp l c else Qp l c ++ [(l.drop (32 * c)).take r]
theorem Sp_next (l : List Int) (c r : Nat) (hr : r < 32) : Qp l c ++ [(l.drop (32 * c)).take (r + 1)] = if r + 1 = 32 then Sp l (c + 1) 0 else Sp l c (r + 1) := by
  unfold Sp
  by_cases h : r + 1 = 32
  · rw [if_pos h, if_pos rfl, Qp_succ, h]
  · rw [if_neg h, if_neg (by omega)]
theorem Sp_end (l : List Int) (c r : Nat) (hr : r < 32) (h : 32 * c + r = l.length) : Sp l c r = cross_Pieces.pc l := by
  have e : cross_Pieces.pc l = Qp l (slices_Chunk.cnt l.length 32) := rfl
  unfold Sp
  rw [e, slices_Chunk.cnt, ← h]
  by_cases h0 : r = 0
  · rw [if_pos h0, show (32 * c + r + 32 - 1) / 32 = c by omega]
  · rw [if_neg h0, show (32 * c + r + 32 - 1) / 32 = c + 1 by omega, Qp_succ]
    congr 2
    rw [List.take_of_length_le (by rw [List.length_drop]; omega), List.take_of_length_le (by rw [List.length_drop]; omega)]
theorem take_snoc (l : List Int) (c r : Nat) (h : 32 * c + r < l.length) : (l.drop (32 * c)).take r ++ [rd l ((32 * c + r : Nat) : Int)] = (l.drop (32 * c)).take (r + 1) := by
  rw [rdG, List.take_add_one]
  congr 1
  rw [List.getElem?_drop, List.getElem?_eq_getElem h, List.getD_eq_getElem?_getD, List.getElem?_eq_getElem h]
  rfl
theorem step_eq (l : List Int) (c r : Nat) (h : 32 * c + r < l.length) : (Qp l c ++ [(l.drop (32 * c)).take r]).set c (rd_L1 (Qp l c ++ [(l.drop (32 * c)).take r]) (c : Int) ++ [rd l ((32 * c + r : Nat) : Int)]) = Qp l c ++ [(l.drop (32 * c)).take (r + 1)] := by
  have e : rd_L1 (Qp l c ++ [(l.drop (32 * c)).take r]) (c : Int) = (l.drop (32 * c)).take r := by
    simp [rd_L1, List.getElem?_append_right, Qp_length]
  rw [e, take_snoc l c r h, List.set_append_right _ _ (by rw [Qp_length]; omega), Qp_length, Nat.sub_self]
  rfl
theorem rPieces_loop (l : List Int) (hl : l.length ≤ 256) : ∀ (m c r : Nat), 32 * c + r + m = l.length → r < 32 → Ev (fun k => fringeref17_Pieces.l0 k l (Sp l c r) ((32 * c + r : Nat) : Int)) (cross_Pieces.pc l, 0) := by
  intro m
  induction m with
  | zero =>
    intro c r hm hr
    rw [Sp_end l c r hr (by omega)]
    exact Ev.step (fun k => fringeref17_Pieces.l0.eq_2 _ _ _ k) (evn (by omega) (Ev.now _))
  | succ m ih =>
    intro c r hm hr
    have ih' : Ev (fun k => fringeref17_Pieces.l0 k l (Qp l c ++ [(l.drop (32 * c)).take (r + 1)]) (wrap64 (((32 * c + r : Nat) : Int) + 1))) (cross_Pieces.pc l, 0) := by
      rw [succ1 (by omega), Sp_next l c r hr]
      by_cases h : r + 1 = 32
      · rw [if_pos h]
        have h2 := ih (c + 1) 0 (by omega) (by omega)
        rw [show 32 * (c + 1) + 0 = 32 * c + r + 1 by omega] at h2
        exact h2
      · rw [if_neg h]
        exact ih c (r + 1) (by omega) (by omega)
    have hlen : (Qp l c ++ [(l.drop (32 * c)).take r]).length = c + 1 := by rw [List.length_append, Qp_length]; rfl
    have hw : wrap64 (((Qp l c ++ [(l.drop (32 * c)).take r]).length : Int) - 1) = (c : Int) := by rw [hlen, w64 (by omega) (by omega)]; omega
    have hrd : (rd_L1 (Qp l c ++ [(l.drop (32 * c)).take r]) (c : Int)).length ≤ 32 := by
      have e : rd_L1 (Qp l c ++ [(l.drop (32 * c)).take r]) (c : Int) = (l.drop (32 * c)).take r := by
        simp [rd_L1, List.getElem?_append_right, Qp_length]
      rw [e, List.length_take]
      omega
    have hst := step_eq l c r (by omega)
    refine Ev.step (fun k => fringeref17_Pieces.l0.eq_2 _ _ _ k) (evp (by omega) ?_)
    by_cases h0 : r = 0
    · have e : Sp l c r ++ [[]] = Qp l c ++ [(l.drop (32 * c)).take r] := by
        subst h0
        rfl
      refine evp (by rw [Int.tmod_eq_emod_of_nonneg (by omega)]; omega) ?_
      rw [e]
      refine evp (by unfold Sp; rw [if_pos h0, Qp_length]; omega) (Ev.bind (Ev.now _) ?_)
      rw [hw]
      refine evp (by omega) (evp (by rw [hlen]; omega) (evp (by omega) (evp (by omega) ?_)))
      rw [Int.toNat_natCast, hst]
      exact ih'
    · have e : Sp l c r = Qp l c ++ [(l.drop (32 * c)).take r] := if_neg h0
      refine evn (by rw [Int.tmod_eq_emod_of_nonneg (by omega)]; omega) ?_
      rw [e, hw]
      refine evp (by omega) (evp (by rw [hlen]; omega) (evp (by omega) (evp (by omega) ?_)))
      rw [Int.toNat_natCast, hst]
      exact ih'
theorem pc_length (l : List Int) (h : l.length ≤ 1000) : (cross_Pieces.pc l).length ≤ 1000 := by
  rw [show cross_Pieces.pc l = Qp l (slices_Chunk.cnt l.length 32) from rfl, Qp_length]
  unfold slices_Chunk.cnt
  omega
theorem Pieces_all (s : List Int) (hs : s.length ≤ 1000) : ∃ x e, cross_Pieces.f s = some (x, e) ∧ Ev (fun k => fringeref17_Pieces.f k s) (x, e) ∧ x.length ≤ 1000 ∧ ∀ j, (rd_L1 x (j : Int)).length ≤ 1000 := by
  have hrl : ∀ j : Int, (rd_L1 ([] : List (List Int)) j).length ≤ 1000 := fun j => by simp [rd_L1]
  by_cases h0 : chk s = 0
  · refine ⟨cross_Pieces.pc s, 0, ?_, ?_, pc_length s hs, fun j => ?_⟩
    · rw [cross_Pieces.f, sample_Check_eq, Option.bind_some, if_pos h0, if_pos (by omega)]
    · exact Ev.congr (fun k => fringeref17_Pieces.f.eq_1 k _) (Ev.bind (refCheck_ev s) (evp h0 (rPieces_loop s (chk_str h0).1 s.length 0 0 (by omega) (by omega))))
    · unfold rd_L1
      rw [List.getD_eq_getElem?_getD]
      cases e : (cross_Pieces.pc s)[Int.toNat j]? with
      | none => simp
      | some v =>
        have hv := List.mem_of_getElem? e
        simp only [cross_Pieces.pc, List.mem_map] at hv
        obtain ⟨i, _, rfl⟩ := hv
        show ((s.drop (32 * i)).take 32).length ≤ 1000
        rw [List.length_take]
        omega
  · refine ⟨[], chk s, ?_, ?_, by simp, fun j => hrl j⟩
    · rw [cross_Pieces.f, sample_Check_eq, Option.bind_some, if_neg h0]
    · exact Ev.congr (fun k => fringeref17_Pieces.f.eq_1 k _) (Ev.bind (refCheck_ev s) (evn h0 (Ev.bind (refCheck_ev s) (Ev.now _))))
theorem sameLists_ev {x : List (List Int)} (h : x.length ≤ 1000) (h2 : ∀ j, (rd_L1 x (j : Int)).length ≤ 1000) : Ev (fun k => fringeref17_SameLists.f k x x) true := by
  have loop : ∀ (m i : Nat), i + m = x.length → Ev (fun k => fringeref17_SameLists.l0 k x x i) true := by
    intro m
    induction m with
    | zero =>
      intro i hi
      exact Ev.step (fun k => fringeref17_SameLists.l0.eq_2 _ _ _ k) (evn (by omega) (Ev.now _))
    | succ m ih =>
      intro i hi
      refine Ev.step (fun k => fringeref17_SameLists.l0.eq_2 _ _ _ k) (evp (by omega) (evp (by omega) (evp (by omega) (Ev.bind (same13_ev (h2 _)) (evp rfl ?_)))))
      rw [succ1 (by omega)]
      exact ih (i + 1) (by omega)
  exact Ev.congr (fun k => fringeref17_SameLists.f.eq_1 k _ _) (evp rfl (loop x.length 0 (Nat.zero_add _)))
end Go.Proofs.Ytbopgopggnagpaa.XS
