/- FnTurnabout. -/
import Derived.Test.YtpoalnlkhlchbaaKq4
namespace Go.Proofs.YtpoalnlkhlchbaaT
set_option linter.unusedVariables false
set_option linter.unusedSimpArgs false
open Go

/- laws.FnTurnabout -/
def c13 : TCode := (.seq (.ops [⟨(some 2), 4, .mv (.c (.b false)), none, []⟩])
  (.seq (.seq (.ops [⟨(some 12), 14, .mv (.t 0), none, []⟩, ⟨(some 13), 15, .call 31 [((.t 12), 0)], none, []⟩])
  (.cond (.t 13)
  (.seq (.ops [⟨(some 2), 4, .mv (.c (.b true)), none, []⟩])
  .ret)
  .skip))
  (.seq (.ops [⟨(some 15), 17, .mv (.t 0), none, []⟩, ⟨(some 16), 18, .call 33 [((.t 15), 0)], none, []⟩, ⟨(some 14), 16, .mv (.t 16), none, []⟩, ⟨(some 17), 19, .ext 0 (.t 14), none, []⟩, ⟨(some 18), 20, .ext 1 (.t 14), none, []⟩, ⟨(some 19), 21, .ext 2 (.t 14), none, []⟩, ⟨(some 4), 6, .box 4 (.c (.ag [(.i .i64 0), (.i .i64 0), (.f 0), (.f 0)])), none, []⟩, ⟨(some 5), 7, .box 4 (.c (.ag [(.i .i64 0), (.i .i64 0), (.f 0), (.f 0)])), none, []⟩, ⟨(some 3), 5, .mv (.t 17), none, []⟩, ⟨none, 1003009, .store 4 (.t 4) (.t 18), none, []⟩, ⟨none, 1003010, .store 4 (.t 5) (.t 19), none, []⟩])
  (.seq (.ops [⟨(some 21), 23, .mv (.t 3), none, []⟩, ⟨(some 22), 24, .load true 4 (.t 4), none, []⟩, ⟨(some 23), 25, .load true 4 (.t 5), none, []⟩, ⟨(some 24), 26, .call 30 [((.t 21), 0), ((.t 22), 0), ((.t 23), 0)], none, []⟩, ⟨(some 20), 22, .mv (.t 24), none, []⟩, ⟨(some 25), 27, .ext 0 (.t 20), none, []⟩, ⟨(some 26), 28, .ext 1 (.t 20), none, []⟩, ⟨(some 6), 8, .box 4 (.c (.ag [(.i .i64 0), (.i .i64 0), (.f 0), (.f 0)])), none, []⟩, ⟨none, 1004008, .store 4 (.t 6) (.t 25), none, []⟩, ⟨(some 7), 9, .mv (.t 26), none, []⟩])
  (.seq (.ops [⟨(some 28), 30, .mv (.t 3), none, []⟩, ⟨(some 29), 31, .load true 4 (.t 5), none, []⟩, ⟨(some 30), 32, .load true 4 (.t 4), none, []⟩, ⟨(some 31), 33, .call 30 [((.t 28), 0), ((.t 29), 0), ((.t 30), 0)], none, []⟩, ⟨(some 27), 29, .mv (.t 31), none, []⟩, ⟨(some 32), 34, .ext 0 (.t 27), none, []⟩, ⟨(some 33), 35, .ext 1 (.t 27), none, []⟩, ⟨(some 8), 10, .box 4 (.c (.ag [(.i .i64 0), (.i .i64 0), (.f 0), (.f 0)])), none, []⟩, ⟨none, 1005008, .store 4 (.t 8) (.t 32), none, []⟩, ⟨(some 9), 11, .mv (.t 33), none, []⟩])
  (.seq (.ops [⟨(some 35), 37, .mv (.t 3), none, []⟩, ⟨(some 36), 38, .load true 4 (.t 4), none, []⟩, ⟨(some 37), 39, .load true 4 (.t 5), none, []⟩, ⟨(some 38), 40, .call 29 [((.t 35), 0), ((.t 36), 0), ((.t 37), 0)], none, []⟩, ⟨(some 34), 36, .mv (.t 38), none, []⟩, ⟨(some 39), 41, .ext 0 (.t 34), none, []⟩, ⟨(some 40), 42, .ext 1 (.t 34), none, []⟩, ⟨(some 10), 12, .box 4 (.c (.ag [(.i .i64 0), (.i .i64 0), (.f 0), (.f 0)])), none, []⟩, ⟨none, 1006008, .store 4 (.t 10) (.t 39), none, []⟩, ⟨(some 11), 13, .mv (.t 40), none, []⟩])
  (.seq (.seq (.ops [⟨(some 41), 43, .mv (.t 7), none, []⟩, ⟨(some 42), 44, .mv (.t 11), none, []⟩, ⟨(some 43), 45, .bin .neq (.t 41) (.t 42), none, []⟩, ⟨(some 44), 46, .mv (.t 43), none, []⟩, ⟨(some 45), 47, .load true 4 (.t 6), (some (44, false)), []⟩, ⟨(some 46), 48, .load true 4 (.t 10), (some (44, false)), []⟩, ⟨(some 47), 49, .call 15 [((.t 45), 0), ((.t 46), 0)], (some (44, false)), []⟩, ⟨(some 48), 50, .un .not (.t 47), (some (44, false)), []⟩, ⟨(some 49), 51, .pick (.t 44) (.c (.b true)) (.t 48), none, []⟩])
  (.cond (.t 49)
  (.seq (.ops [⟨(some 2), 4, .mv (.c (.b false)), none, []⟩])
  .ret)
  .skip))
  (.seq (.seq (.ops [⟨(some 50), 52, .mv (.t 11), none, []⟩, ⟨(some 51), 53, .bin .eql (.t 50) (.c (.i .i64 0)), none, []⟩, ⟨(some 52), 54, .mv (.t 51), none, []⟩, ⟨(some 53), 55, .load true 4 (.t 6), (some (52, true)), []⟩, ⟨(some 54), 56, .call 19 [((.t 53), 0)], (some (52, true)), []⟩, ⟨(some 55), 57, .un .not (.t 54), (some (52, true)), []⟩, ⟨(some 56), 58, .pick (.t 52) (.t 55) (.c (.b false)), none, []⟩])
  (.cond (.t 56)
  (.seq (.ops [⟨(some 2), 4, .mv (.c (.b false)), none, []⟩])
  .ret)
  .skip))
  (.seq (.seq (.ops [⟨(some 57), 59, .mv (.t 3), none, []⟩, ⟨(some 58), 60, .bin .eql (.t 57) (.c (.i .i64 1)), none, []⟩, ⟨(some 59), 61, .mv (.t 58), none, []⟩, ⟨(some 60), 62, .mv (.t 3), (some (59, false)), []⟩, ⟨(some 61), 63, .bin .eql (.t 60) (.c (.i .i64 3)), (some (59, false)), []⟩, ⟨(some 62), 64, .pick (.t 59) (.c (.b true)) (.t 61), none, []⟩, ⟨(some 63), 65, .mv (.t 62), none, []⟩, ⟨(some 64), 66, .mv (.t 3), (some (63, false)), []⟩, ⟨(some 65), 67, .bin .eql (.t 64) (.c (.i .i64 7)), (some (63, false)), []⟩, ⟨(some 66), 68, .pick (.t 63) (.c (.b true)) (.t 65), none, []⟩, ⟨(some 67), 69, .mv (.t 66), none, []⟩, ⟨(some 68), 70, .mv (.t 3), (some (67, false)), []⟩, ⟨(some 69), 71, .bin .eql (.t 68) (.c (.i .i64 8)), (some (67, false)), []⟩, ⟨(some 70), 72, .pick (.t 67) (.c (.b true)) (.t 69), none, []⟩, ⟨(some 71), 73, .mv (.t 70), none, []⟩, ⟨(some 72), 74, .mv (.t 3), (some (71, false)), []⟩, ⟨(some 73), 75, .bin .eql (.t 72) (.c (.i .i64 9)), (some (71, false)), []⟩, ⟨(some 74), 76, .pick (.t 71) (.c (.b true)) (.t 73), none, []⟩])
  (.cond (.t 74)
  (.seq (.ops [⟨(some 75), 77, .mv (.t 7), none, []⟩, ⟨(some 76), 78, .mv (.t 9), none, []⟩, ⟨(some 77), 79, .bin .eql (.t 75) (.t 76), none, []⟩, ⟨(some 78), 80, .mv (.t 77), none, []⟩, ⟨(some 79), 81, .load true 4 (.t 6), (some (78, true)), []⟩, ⟨(some 80), 82, .load true 4 (.t 8), (some (78, true)), []⟩, ⟨(some 81), 83, .call 15 [((.t 79), 0), ((.t 80), 0)], (some (78, true)), []⟩, ⟨(some 82), 84, .pick (.t 78) (.t 81) (.c (.b false)), none, []⟩, ⟨(some 2), 4, .mv (.t 82), none, []⟩])
  .ret)
  .skip))
  (.seq (.ops [⟨(some 2), 4, .mv (.c (.b true)), none, []⟩])
  .ret))))))))))
theorem k13 : compCode Try.prog Try.f13.ntmps Try.f13.body.get! = some c13 := by kernel_rfl
theorem r13 : resTmps Try.prog Try.f13.results.toList = some [.tmp 2] := by kernel_rfl

set_option maxHeartbeats 2000000 in
set_option maxRecDepth 100000 in
theorem w13 (bs : List Int) : Contract Try.prog false 13 [.ro] [.sl false 1 (bs.map uT)] [.b true] [] := by
  refine mk_contract [] Try.func13 (c := Try.f13.body.get!) (by kernel_rfl) k13 r13 (of_decide_eq_true rfl) fun _ => ?_
  unfold c13; simp
  by_cases hbig : 1048576 < bs.length
  · refine callW_ms [.ro] ?_
    simp
    refine callX_of (w31 bs) (by simp) ?_
    simp [hbig]
  refine callW_ms [.ro] ?_
  simp
  refine callX_of (w31 bs) (by simp) ?_
  simp [hbig]
  obtain ⟨⟨op, a, b⟩, ⟨⟨fa, ga⟩, fb, gb⟩, hC⟩ := w33 bs (by omega)
  simp only at fa ga fb gb hC
  unfold valV at hC
  refine callW_ms [.ro] ?_
  simp
  refine callX_of hC (by simp) ?_
  simp
  have hx := w30 op a b
  have hy := w30 op b a
  have hs := w29 op a b fa fb (by unfold in64 at ga; exact ⟨ga.1, by omega⟩)
  obtain ⟨fF, fO⟩ := opF_ok op a b
  have hv := (w15 (opF op a b).1 (opF op a b).1 fF fF).t rfl
  have hok := fun h => (w19 (opF op a b).1).t (fO h)
  have hcm : (op = 1 ∨ op = 3 ∨ op = 7 ∨ op = 8 ∨ op = 9) → opF op b a = opF op a b := fun h => (opF_comm h).symm
  generalize opF op a b = R at *
  generalize opF op b a = R2 at *
  obtain ⟨⟨rk, rn, rx, ry⟩, rc⟩ := R
  obtain ⟨⟨sk, sn, sx, sy⟩, sc⟩ := R2
  simp only [valV] at hx hy hs hv hok
  refine callW_ms [.ro, .ro, .ro] ?_
  simp
  refine callX_of hx (by simp) ?_
  simp
  refine callW_ms [.ro, .ro, .ro] ?_
  simp
  refine callX_of hy (by simp) ?_
  simp
  refine callW_ms [.ro, .ro, .ro] ?_
  simp
  refine callX_of hs (by simp) ?_
  simp
  refine callW_ms [.ro, .ro] ?_
  simp
  refine callX_of hv (by simp) ?_
  simp
  by_cases h0 : rc = 0
  · subst h0
    simp
    refine callW_ms [.ro] ?_
    simp
    refine callX_of (hok rfl) (by simp) ?_
    simp
    by_cases hop : op = 1 ∨ op = 3 ∨ op = 7 ∨ op = 8 ∨ op = 9
    · have e := hcm hop
      simp only [Prod.mk.injEq] at e
      obtain ⟨⟨rfl, rfl, rfl, rfl⟩, rfl⟩ := e
      rcases hop with rfl | rfl | rfl | rfl | rfl <;> simp
      all_goals
        refine callW_ms [.ro, .ro] ?_
        simp
        refine callX_of hv (by simp) ?_
        simp
    · have n1 : ¬ op = 1 := fun h => hop (.inl h)
      have n3 : ¬ op = 3 := fun h => hop (.inr (.inl h))
      have n7 : ¬ op = 7 := fun h => hop (.inr (.inr (.inl h)))
      have n8 : ¬ op = 8 := fun h => hop (.inr (.inr (.inr (.inl h))))
      have n9 : ¬ op = 9 := fun h => hop (.inr (.inr (.inr (.inr h))))
      simp [n1, n3, n7, n8, n9]
  · simp [h0]
    by_cases hop : op = 1 ∨ op = 3 ∨ op = 7 ∨ op = 8 ∨ op = 9
    · have e := hcm hop
      simp only [Prod.mk.injEq] at e
      obtain ⟨⟨rfl, rfl, rfl, rfl⟩, rfl⟩ := e
      rcases hop with rfl | rfl | rfl | rfl | rfl <;> simp
      all_goals
        refine callW_ms [.ro, .ro] ?_
        simp
        refine callX_of hv (by simp) ?_
        simp
    · have n1 : ¬ op = 1 := fun h => hop (.inl h)
      have n3 : ¬ op = 3 := fun h => hop (.inr (.inl h))
      have n7 : ¬ op = 7 := fun h => hop (.inr (.inr (.inl h)))
      have n8 : ¬ op = 8 := fun h => hop (.inr (.inr (.inr (.inl h))))
      have n9 : ¬ op = 9 := fun h => hop (.inr (.inr (.inr (.inr h))))
      simp [n1, n3, n7, n8, n9]
end Go.Proofs.YtpoalnlkhlchbaaT
