/- FnAheadOf, FnThings: the walks. -/
import Derived.Test.YtloodkhdngipbaaKo4
namespace Go.Proofs.YtloodkhdngipbaaT
set_option linter.unusedVariables false
set_option linter.unusedSimpArgs false
open Go

theorem takeF_of {g f : List Int} (h : EntsOkP g f) : takeF g f = takeP g f := by unfold takeF; rw [if_pos h]
set_option maxHeartbeats 2000000 in
set_option maxRecDepth 100000 in
theorem w10 (bs : List Int) : Contract Try.prog false 10 [.ro] [.sl false 1 (bs.map uT)] [.b true] [] := by
  refine mk_contract [] Try.func10 (c := Try.f10.body.get!) (by kernel_rfl) k10 r10 (of_decide_eq_true rfl) fun _ => ?_
  unfold c10; simp
  by_cases hbig : 1048576 < bs.length
  · refine callW_ms [.ro] ?_
    simp
    refine callX_of (w32 bs) (by simp) ?_
    simp [hbig]
  refine callW_ms [.ro] ?_
  simp
  refine callX_of (w32 bs) (by simp) ?_
  simp [hbig]
  obtain ⟨⟨g, f⟩, ⟨lg, lf⟩, hC⟩ := w40 bs (by omega)
  simp only at lg lf hC
  unfold entsO at hC
  refine callW_ms [.ro] ?_
  simp
  refine callX_of hC (by simp) ?_
  simp
  have hI := w39 g f (by omega) (by omega)
  have hS := w41 g f (by omega) (by omega)
  by_cases hE : EntsOkP g f ∧ ¬ (g.length = 2000 ∧ f = [])
  rotate_left
  · obtain ⟨c, hc, e⟩ : ∃ c : Int, c ≠ 0 ∧ takeF g f = ((g, f), (0, 0), c) := by
      unfold takeF
      by_cases h : EntsOkP g f
      · have h2 : g.length = 2000 ∧ f = [] := Decidable.byContradiction fun h2 => hE ⟨h, h2⟩
        obtain ⟨h3, rfl⟩ := h2
        exact ⟨3, by decide, by simp [h, takeP, h3]⟩
      · exact ⟨1, by decide, by simp [h]⟩
    rw [e] at hI hS
    simp only [entsR, entsO, entT] at hI hS
    refine callW_ms [.ro] ?_
    simp
    refine callX_of hI (by simp) ?_
    simp
    refine callW_ms [.ro] ?_
    simp
    refine callX_of hS (by simp) ?_
    simp [hc]
    refine callW_ms [.ro, .ro] ?_
    simp
    refine callX_of (w42 g (by omega)) (by simp) ?_
    simp
    refine callW_ms [.ro, .ro] ?_
    simp
    refine callX_of (w42 f (by omega)) (by simp) ?_
    simp
  obtain ⟨hE, hn⟩ := hE
  obtain ⟨g1, f1, x, y, z, T⟩ := things hE hn
  have hlg1 := T.ok1.2.2
  have hlf1 := T.ok1.fl
  rw [takeF_of hE, T.t1] at hI hS
  have hG := w43 g1 f1 x y (by omega) (by omega)
  have e2 : giveP g1 f1 x y = (giveG g1 x y, f1 ++ [x], 0) := by unfold giveP; rw [if_pos T.ok1, if_pos T.l1]
  rw [e2] at hG
  have hlb : (f1 ++ [x]).length ≤ 2000 := T.ok2.fl
  have hT2 := w39 (giveG g1 x y) (f1 ++ [x]) (by rw [giveG_len]; omega) (by omega)
  rw [takeF_of T.ok2, T.t2] at hT2
  have hL0 := (w44 g f x y (by omega) (by omega)).f (fun h => T.l0 h.2)
  have hL1 := (w45 g1 f1 x y (by omega) (by omega)).t ⟨T.ok1, T.l1⟩
  have hL2 := (w45 (giveG g1 x y) (f1 ++ [x]) x y (by rw [giveG_len]; omega) (by omega)).f (fun h => T.l2 h.2)
  have hL3 := (w45 (giveG g1 x y) f1 x y (by rw [giveG_len]; omega) (by omega)).f (fun h => T.l3 h.2)
  have hL4 := (w45 (giveG g1 x y) f1 x z (by rw [giveG_len]; omega) (by omega)).t ⟨T.ok3, T.l4⟩
  have hA := w46 g1 f1 (by omega) (by omega)
  have hB := w46 (giveG g1 x y) (f1 ++ [x]) (by rw [giveG_len]; omega) (by omega)
  have hP := w47 g f (by omega) (by omega)
  have eA : entListF g1 f1 = liveG g1 f1 g1.length := by unfold entListF; rw [if_pos T.ok1]
  have eB : entListF (giveG g1 x y) (f1 ++ [x]) = liveG (giveG g1 x y) (f1 ++ [x]) (giveG g1 x y).length := by unfold entListF; rw [if_pos T.ok2]
  have eP : entListF g f = liveG g f g.length := by unfold entListF; rw [if_pos hE]
  rw [eA] at hA
  rw [eB] at hB
  rw [eP] at hP
  have n1 := T.n1
  have n2 := T.n2
  have ne := T.ne
  have hlp := liveG_len g f g.length
  obtain ⟨g2, eg2⟩ : ∃ g2, g2 = giveG g1 x y := ⟨_, rfl⟩
  have hg2l : g2.length = g1.length := by rw [eg2, giveG_len]
  rw [← eg2] at hG hT2 hL2 hL3 hL4 hB n2
  generalize liveG g1 f1 g1.length = la at *
  generalize liveG g2 (f1 ++ [x]) g2.length = lb at *
  generalize liveG g f g.length = lp at *
  simp only [entsR, entsO, entT, List.map_append, List.map_cons, List.map_nil, iT] at hI hS hG hT2 hL0 hL1 hL2 hL3 hL4 hA hB hP
  have hw : IntKind.i64.wrap ((lp.length : Int) + 1) = lp.length + 1 := wrap_id (by omega) (by omega)
  refine callW_ms [.ro] ?_
  simp
  refine callX_of hI (by simp) ?_
  simp
  refine callW_ms [.ro] ?_
  simp
  refine callX_of hS (by simp) ?_
  simp
  refine callW_ms [.ro, .ro] ?_
  simp
  refine callX_of hG (by simp) ?_
  simp
  refine callW_ms [.ro] ?_
  simp
  refine callX_of hT2 (by simp) ?_
  simp
  refine callW_ms [.ro, .ro] ?_
  simp
  refine callX_of hL0 (by simp) ?_
  simp
  refine callW_ms [.ro, .ro] ?_
  simp
  refine callX_of hL1 (by simp) ?_
  simp
  refine callW_ms [.ro, .ro] ?_
  simp
  refine callX_of hL2 (by simp) ?_
  simp
  refine callW_ms [.ro, .ro] ?_
  simp
  refine callX_of hL3 (by simp) ?_
  simp [ne]
  refine callW_ms [.ro, .ro] ?_
  simp
  refine callX_of hL4 (by simp) ?_
  simp [ne]
  refine callW_ms [.ro] ?_
  simp
  refine callX_of hA (by simp) ?_
  simp
  refine callW_ms [.ro] ?_
  simp
  refine callX_of hP (by simp) ?_
  simp [hw, n1]
  refine callW_ms [.ro] ?_
  simp
  refine callX_of hB (by simp) ?_
  simp
  refine callW_ms [.ro] ?_
  simp
  refine callX_of hP (by simp) ?_
  simp [n2]
set_option maxHeartbeats 2000000 in
set_option maxRecDepth 100000 in
theorem w9 (bs : List Int) : Contract Try.prog false 9 [.ro] [.sl false 1 (bs.map uT)] [.b true] [] := by
  refine mk_contract [] Try.func9 (c := Try.f9.body.get!) (by kernel_rfl) k9 r9 (of_decide_eq_true rfl) fun _ => ?_
  unfold c9; simp
  by_cases hbig : 1048576 < bs.length
  · refine callW_ms [.ro] ?_
    simp
    refine callX_of (w32 bs) (by simp) ?_
    simp [hbig]
  refine callW_ms [.ro] ?_
  simp
  refine callX_of (w32 bs) (by simp) ?_
  simp [hbig]
  obtain ⟨⟨⟨g, f⟩, n⟩, ⟨lg, lf, ln0, ln1⟩, hC⟩ := w36 bs (by omega)
  simp only at lg lf ln0 ln1 hC
  unfold entsO at hC
  refine callW_ms [.ro] ?_
  simp
  refine callX_of hC (by simp) ?_
  simp
  have hI := w37 g f n (by omega) (by omega) (by omega) (by omega)
  have hS := w38 g f n (by omega) (by omega) (by omega) (by omega)
  by_cases hE : EntsOkP g f ∧ 0 ≤ n ∧ n ≤ f.length + (2000 - g.length)
  rotate_left
  · have e : aheadF g f n = ([], false) := by unfold aheadF; rw [if_neg (by omega)]
    rw [e] at hI hS
    simp only [entsR] at hI hS
    refine callW_ms [.ro, .ro] ?_
    simp
    refine callX_of hI (by simp) ?_
    simp
    refine callW_ms [.ro, .ro] ?_
    simp
    refine callX_of hS (by simp) ?_
    simp
  have e : aheadF g f n = (ahE g f n.toNat, true) := by unfold aheadF; rw [if_pos (by omega)]
  obtain ⟨hE, hn0, hn1⟩ := hE
  obtain ⟨m, rfl⟩ : ∃ m : Nat, n = m := ⟨n.toNat, by omega⟩
  rw [e] at hI hS
  rw [show ((m : Int)).toNat = m by omega] at hI hS
  simp only [entsR] at hI hS
  refine callW_ms [.ro, .ro] ?_
  simp
  refine callX_of hI (by simp) ?_
  simp
  refine callW_ms [.ro, .ro] ?_
  simp
  refine callX_of hS (by simp) ?_
  simp
  refine twp_for m (fun j s => s.t 3 = .pt [(5, 0)] 0 0 ∧ s.t 4 = .i .i64 m ∧ s.t 5 = .rf [(25, 0)] 0 m ∧ s.t 9 = .i .i64 j ∧ s.H = lk [(1, []), (5, [.po true [.sl true 1 ((ahS g f j).1.map iT), .sl true 1 ((ahS g f j).2.map iT)]]), (25, [.sl true 2 ((ahE g f m).map eT), .b true])]) [12, 13, 19, 31, 63] (by simp) ?_ ?_
  · simp [ahS]
  · rintro j s hj ⟨q3, q4, q5, q9, qH⟩
    rw [nf_of qH]
    have hw : IntKind.i64.wrap ((j : Int) + 1) = j + 1 := wrap_id (by omega) (by omega)
    cases hb9 : decide (j < m)
    · have hge := of_decide_eq_false hb9
      simp [q3, q4, q5, q9, hb9]
    · have hlt := of_decide_eq_true hb9
      cases hb8 : decide ((j : Int) < 40)
      · simp [q3, q4, q5, q9, hb9, hb8]
      · obtain ⟨hEj, hA⟩ := ahS_ok hE j (by omega)
        have hc := hA.code
        rw [if_pos (by omega)] at hc
        have hget := ahE_get (g := g) (f := f) hlt
        have hT := w39 (ahS g f j).1 (ahS g f j).2 (by have := hEj.2.2; omega) (by have := hEj.fl; omega)
        rw [takeF_of hEj] at hT
        have eS : ahS g f (j + 1) = (takeP (ahS g f j).1 (ahS g f j).2).1 := rfl
        rw [hc, ← eS] at hT
        generalize (takeP (ahS g f j).1 (ahS g f j).2).2.1 = e0 at *
        simp only [entsR, entsO, entT] at hT
        simp [q3, q4, q5, q9, hb9, hb8]
        refine callW_ms [.ro] ?_
        simp
        refine callX_of hT (by simp) ?_
        simp [q3, q4, q5, q9, hget, hw, forK]
        exact hlt
end Go.Proofs.YtloodkhdngipbaaT
