/- Values: right, nought, pairs. -/
import Derived.Test.YtloodkhdngipbaaKv1
namespace Go.Proofs.YtloodkhdngipbaaT
set_option linter.unusedVariables false
set_option linter.unusedSimpArgs false
open Go

/- spec.ValOk -/
def c79 : TCode := (.seq (.ops [⟨(some 1), 3, .box 4 (.t 0), none, []⟩, ⟨(some 2), 4, .mv (.c (.b false)), none, []⟩])
  (.seq (.seq (.ops [⟨(some 3), 5, .faddr 0 1 (.t 1), none, []⟩, ⟨(some 4), 6, .load false 1 (.t 3), none, []⟩])
  (.block 0 (.seq (.ops [⟨(some 6), 8, .bin .eql (.t 4) (.c (.i .i64 1)), none, []⟩, ⟨(some 5), 7, .mv (.t 6), none, []⟩])
  (.cond (.t 5)
  (.seq (.ops [⟨(some 7), 9, .faddr 2 1 (.t 1), none, []⟩, ⟨(some 8), 10, .load false 1 (.t 7), none, []⟩, ⟨(some 9), 11, .call 127 [((.t 8), 0)], none, []⟩, ⟨(some 10), 12, .mv (.t 9), none, []⟩, ⟨(some 11), 13, .faddr 3 1 (.t 1), (some (10, true)), []⟩, ⟨(some 12), 14, .load false 1 (.t 11), (some (10, true)), []⟩, ⟨(some 13), 15, .call 127 [((.t 12), 0)], (some (10, true)), []⟩, ⟨(some 14), 16, .pick (.t 10) (.t 13) (.c (.b false)), none, []⟩, ⟨(some 2), 4, .mv (.t 14), none, []⟩])
  .ret)
  (.seq (.ops [⟨(some 16), 18, .bin .eql (.t 4) (.c (.i .i64 2)), none, []⟩, ⟨(some 15), 17, .mv (.t 16), none, []⟩])
  (.cond (.t 15)
  (.seq (.ops [⟨(some 17), 19, .faddr 1 1 (.t 1), none, []⟩, ⟨(some 18), 20, .load false 1 (.t 17), none, []⟩, ⟨(some 19), 21, .bin .eql (.t 18) (.c (.i .i64 0)), none, []⟩, ⟨(some 20), 22, .mv (.t 19), none, []⟩, ⟨(some 21), 23, .faddr 3 1 (.t 1), (some (20, true)), []⟩, ⟨(some 22), 24, .load false 1 (.t 21), (some (20, true)), []⟩, ⟨(some 23), 25, .call 127 [((.t 22), 0)], (some (20, true)), []⟩, ⟨(some 24), 26, .pick (.t 20) (.t 23) (.c (.b false)), none, []⟩, ⟨(some 2), 4, .mv (.t 24), none, []⟩])
  .ret)
  (.seq (.ops [⟨(some 26), 28, .bin .eql (.t 4) (.c (.i .i64 3)), none, []⟩, ⟨(some 25), 27, .mv (.t 26), none, []⟩])
  (.cond (.t 25)
  (.seq (.ops [⟨(some 27), 29, .faddr 1 1 (.t 1), none, []⟩, ⟨(some 28), 30, .load false 1 (.t 27), none, []⟩, ⟨(some 29), 31, .bin .eql (.t 28) (.c (.i .i64 0)), none, []⟩, ⟨(some 2), 4, .mv (.t 29), none, []⟩])
  .ret)
  (.seq (.ops [⟨(some 31), 33, .bin .eql (.t 4) (.c (.i .i64 4)), none, []⟩, ⟨(some 30), 32, .mv (.t 31), none, []⟩])
  (.cond (.t 30)
  (.seq (.ops [⟨(some 32), 34, .faddr 1 1 (.t 1), none, []⟩, ⟨(some 33), 35, .load false 1 (.t 32), none, []⟩, ⟨(some 34), 36, .bin .eql (.t 33) (.c (.i .i64 0)), none, []⟩, ⟨(some 35), 37, .mv (.t 34), none, []⟩, ⟨(some 36), 38, .faddr 1 1 (.t 1), (some (35, false)), []⟩, ⟨(some 37), 39, .load false 1 (.t 36), (some (35, false)), []⟩, ⟨(some 38), 40, .bin .eql (.t 37) (.c (.i .i64 1)), (some (35, false)), []⟩, ⟨(some 39), 41, .pick (.t 35) (.c (.b true)) (.t 38), none, []⟩, ⟨(some 40), 42, .mv (.t 39), none, []⟩, ⟨(some 41), 43, .faddr 2 1 (.t 1), (some (40, true)), []⟩, ⟨(some 42), 44, .load false 1 (.t 41), (some (40, true)), []⟩, ⟨(some 43), 45, .call 127 [((.t 42), 0)], (some (40, true)), []⟩, ⟨(some 44), 46, .pick (.t 40) (.t 43) (.c (.b false)), none, []⟩, ⟨(some 45), 47, .mv (.t 44), none, []⟩, ⟨(some 46), 48, .faddr 3 1 (.t 1), (some (45, true)), []⟩, ⟨(some 47), 49, .load false 1 (.t 46), (some (45, true)), []⟩, ⟨(some 48), 50, .call 127 [((.t 47), 0)], (some (45, true)), []⟩, ⟨(some 49), 51, .pick (.t 45) (.t 48) (.c (.b false)), none, []⟩, ⟨(some 2), 4, .mv (.t 49), none, []⟩])
  .ret)
  .skip))))))))))
  (.seq (.ops [⟨(some 2), 4, .mv (.c (.b false)), none, []⟩])
  .ret)))
theorem k79 : compCode Try.prog Try.f79.ntmps Try.f79.body.get! = some c79 := by kernel_rfl
theorem r79 : resTmps Try.prog Try.f79.results.toList = some [.tmp 2] := by kernel_rfl
/- impl.ValOk -/
def c128 : TCode := (.seq (.ops [⟨(some 1), 3, .box 4 (.t 0), none, []⟩, ⟨(some 2), 4, .mv (.c (.b false)), none, []⟩])
  (.seq (.seq (.ops [⟨(some 3), 5, .faddr 0 1 (.t 1), none, []⟩, ⟨(some 4), 6, .load false 1 (.t 3), none, []⟩])
  (.block 0 (.seq (.ops [⟨(some 6), 8, .bin .eql (.t 4) (.c (.i .i64 1)), none, []⟩, ⟨(some 5), 7, .mv (.t 6), none, []⟩])
  (.cond (.t 5)
  (.seq (.ops [⟨(some 7), 9, .faddr 2 1 (.t 1), none, []⟩, ⟨(some 8), 10, .load false 1 (.t 7), none, []⟩, ⟨(some 9), 11, .call 156 [((.t 8), 0)], none, []⟩, ⟨(some 10), 12, .mv (.t 9), none, []⟩, ⟨(some 11), 13, .faddr 3 1 (.t 1), (some (10, true)), []⟩, ⟨(some 12), 14, .load false 1 (.t 11), (some (10, true)), []⟩, ⟨(some 13), 15, .call 156 [((.t 12), 0)], (some (10, true)), []⟩, ⟨(some 14), 16, .pick (.t 10) (.t 13) (.c (.b false)), none, []⟩, ⟨(some 2), 4, .mv (.t 14), none, []⟩])
  .ret)
  (.seq (.ops [⟨(some 16), 18, .bin .eql (.t 4) (.c (.i .i64 2)), none, []⟩, ⟨(some 15), 17, .mv (.t 16), none, []⟩])
  (.cond (.t 15)
  (.seq (.ops [⟨(some 17), 19, .faddr 1 1 (.t 1), none, []⟩, ⟨(some 18), 20, .load false 1 (.t 17), none, []⟩, ⟨(some 19), 21, .bin .eql (.t 18) (.c (.i .i64 0)), none, []⟩, ⟨(some 20), 22, .mv (.t 19), none, []⟩, ⟨(some 21), 23, .faddr 3 1 (.t 1), (some (20, true)), []⟩, ⟨(some 22), 24, .load false 1 (.t 21), (some (20, true)), []⟩, ⟨(some 23), 25, .call 156 [((.t 22), 0)], (some (20, true)), []⟩, ⟨(some 24), 26, .pick (.t 20) (.t 23) (.c (.b false)), none, []⟩, ⟨(some 2), 4, .mv (.t 24), none, []⟩])
  .ret)
  (.seq (.ops [⟨(some 26), 28, .bin .eql (.t 4) (.c (.i .i64 3)), none, []⟩, ⟨(some 25), 27, .mv (.t 26), none, []⟩])
  (.cond (.t 25)
  (.seq (.ops [⟨(some 27), 29, .faddr 1 1 (.t 1), none, []⟩, ⟨(some 28), 30, .load false 1 (.t 27), none, []⟩, ⟨(some 29), 31, .bin .eql (.t 28) (.c (.i .i64 0)), none, []⟩, ⟨(some 2), 4, .mv (.t 29), none, []⟩])
  .ret)
  (.seq (.ops [⟨(some 31), 33, .bin .eql (.t 4) (.c (.i .i64 4)), none, []⟩, ⟨(some 30), 32, .mv (.t 31), none, []⟩])
  (.cond (.t 30)
  (.seq (.ops [⟨(some 32), 34, .faddr 1 1 (.t 1), none, []⟩, ⟨(some 33), 35, .load false 1 (.t 32), none, []⟩, ⟨(some 34), 36, .call 74 [((.t 33), 0), ((.c (.i .i64 0)), 0), ((.c (.i .i64 1)), 0)], none, []⟩, ⟨(some 35), 37, .mv (.t 34), none, []⟩, ⟨(some 36), 38, .faddr 2 1 (.t 1), (some (35, true)), []⟩, ⟨(some 37), 39, .load false 1 (.t 36), (some (35, true)), []⟩, ⟨(some 38), 40, .call 156 [((.t 37), 0)], (some (35, true)), []⟩, ⟨(some 39), 41, .pick (.t 35) (.t 38) (.c (.b false)), none, []⟩, ⟨(some 40), 42, .mv (.t 39), none, []⟩, ⟨(some 41), 43, .faddr 3 1 (.t 1), (some (40, true)), []⟩, ⟨(some 42), 44, .load false 1 (.t 41), (some (40, true)), []⟩, ⟨(some 43), 45, .call 156 [((.t 42), 0)], (some (40, true)), []⟩, ⟨(some 44), 46, .pick (.t 40) (.t 43) (.c (.b false)), none, []⟩, ⟨(some 2), 4, .mv (.t 44), none, []⟩])
  .ret)
  .skip))))))))))
  (.seq (.ops [⟨(some 2), 4, .mv (.c (.b false)), none, []⟩])
  .ret)))
theorem k128 : compCode Try.prog Try.f128.ntmps Try.f128.body.get! = some c128 := by kernel_rfl
theorem r128 : resTmps Try.prog Try.f128.results.toList = some [.tmp 2] := by kernel_rfl

def ValOkP (v : ValP) : Prop := (v.1 = 1 ∧ v.2.2.1 = 0 ∧ v.2.2.2 = 0) ∨ (v.1 = 2 ∧ v.2.1 = 0 ∧ v.2.2.2 = 0) ∨ (v.1 = 3 ∧ v.2.1 = 0) ∨ (v.1 = 4 ∧ (v.2.1 = 0 ∨ v.2.1 = 1) ∧ v.2.2.1 = 0 ∧ v.2.2.2 = 0)
instance (v : ValP) : Decidable (ValOkP v) := by unfold ValOkP; infer_instance
theorem w79 (v : ValP) (hv : valOkF v) : Contract Try.prog false 79 [.ro] [valV v] [.b (decide (ValOkP v))] [] := by
  refine mk_contract [] Try.func79 (c := Try.f79.body.get!) (by kernel_rfl) k79 r79 (of_decide_eq_true rfl) fun _ => ?_
  unfold c79; unfold valV ValOkP; simp
  by_cases k1 : v.1 = 1
  · simp [k1]
    by_cases h1 : v.2.2.1 = 0
    · refine callW_ms [.ro] ?_
      simp
      refine callX_of ((w127 _ hv.1).t h1) (by simp) ?_
      simp
      refine callW_ms [.ro] ?_
      simp
      refine callX_of (w127 _ hv.2) (by simp) ?_
      simp [h1]
    · refine callW_ms [.ro] ?_
      simp
      refine callX_of ((w127 _ hv.1).f h1) (by simp) ?_
      simp [h1]
  by_cases k2 : v.1 = 2
  · simp [k2]
    by_cases h1 : v.2.1 = 0
    · simp [h1]
      refine callW_ms [.ro] ?_
      simp
      refine callX_of (w127 _ hv.2) (by simp) ?_
      simp [h1]
    · simp [h1]
  by_cases k3 : v.1 = 3
  · simp [k3]
  by_cases k4 : v.1 = 4
  · simp [k4]
    by_cases hi : v.2.1 = 0
    · simp [hi]
      by_cases h1 : v.2.2.1 = 0
      · refine callW_ms [.ro] ?_
        simp
        refine callX_of ((w127 _ hv.1).t h1) (by simp) ?_
        simp
        refine callW_ms [.ro] ?_
        simp
        refine callX_of (w127 _ hv.2) (by simp) ?_
        simp [h1]
      · refine callW_ms [.ro] ?_
        simp
        refine callX_of ((w127 _ hv.1).f h1) (by simp) ?_
        simp [h1]
    · by_cases hi1 : v.2.1 = 1
      · simp [hi, hi1]
        by_cases h1 : v.2.2.1 = 0
        · refine callW_ms [.ro] ?_
          simp
          refine callX_of ((w127 _ hv.1).t h1) (by simp) ?_
          simp
          refine callW_ms [.ro] ?_
          simp
          refine callX_of (w127 _ hv.2) (by simp) ?_
          simp [h1]
        · refine callW_ms [.ro] ?_
          simp
          refine callX_of ((w127 _ hv.1).f h1) (by simp) ?_
          simp [h1]
      · simp [hi, hi1]
  simp [k1, k2, k3, k4]
theorem w128 (v : ValP) : Contract Try.prog false 128 [.ro] [valV v] [.b (decide (ValOkP v))] [] := by
  refine mk_contract [] Try.func128 (c := Try.f128.body.get!) (by kernel_rfl) k128 r128 (of_decide_eq_true rfl) fun _ => ?_
  unfold c128; unfold valV ValOkP; simp
  by_cases k1 : v.1 = 1
  · simp [k1]
    by_cases h1 : v.2.2.1 = 0
    · refine callW_ms [.ro] ?_
      simp
      refine callX_of ((w156 _).t h1) (by simp) ?_
      simp
      refine callW_ms [.ro] ?_
      simp
      refine callX_of (w156 v.2.2.2) (by simp) ?_
      simp [h1]
    · refine callW_ms [.ro] ?_
      simp
      refine callX_of ((w156 _).f h1) (by simp) ?_
      simp [h1]
  by_cases k2 : v.1 = 2
  · simp [k2]
    by_cases h1 : v.2.1 = 0
    · simp [h1]
      refine callW_ms [.ro] ?_
      simp
      refine callX_of (w156 v.2.2.2) (by simp) ?_
      simp [h1]
    · simp [h1]
  by_cases k3 : v.1 = 3
  · simp [k3]
  by_cases k4 : v.1 = 4
  · simp [k4]
    by_cases hi : 0 ≤ v.2.1 ∧ v.2.1 ≤ 1
    · have hi2 : v.2.1 = 0 ∨ v.2.1 = 1 := by omega
      refine callW_ms [.ro, .ro, .ro] ?_
      simp
      refine callX_of ((w74 v.2.1 0 1).t hi) (by simp) ?_
      simp
      by_cases h1 : v.2.2.1 = 0
      · refine callW_ms [.ro] ?_
        simp
        refine callX_of ((w156 _).t h1) (by simp) ?_
        simp
        refine callW_ms [.ro] ?_
        simp
        refine callX_of (w156 v.2.2.2) (by simp) ?_
        simp [h1, hi2]
      · refine callW_ms [.ro] ?_
        simp
        refine callX_of ((w156 _).f h1) (by simp) ?_
        simp [h1]
    · have hi2 : ¬ (v.2.1 = 0 ∨ v.2.1 = 1) := by omega
      refine callW_ms [.ro, .ro, .ro] ?_
      simp
      refine callX_of ((w74 v.2.1 0 1).f hi) (by simp) ?_
      simp [hi2]
  simp [k1, k2, k3, k4]
def zeroV (k : Int) : ValP := if 1 ≤ k ∧ k ≤ 4 then (k, 0, 0, 0) else (0, 0, 0, 0)
theorem zeroV_ok (k : Int) : valOkF (zeroV k) := by unfold zeroV; split <;> exact ⟨fOk_zero, fOk_zero⟩
def pairV (a b : ValP) : ValP × Bool := if ValOkP a ∧ ValOkP b ∧ a.1 = 2 ∧ b.1 = 2 then ((3, 0, a.2.2.1, b.2.2.1), true) else ((0, 0, 0, 0), false)
theorem pairV_ok {a b : ValP} (ha : valOkF a) (hb : valOkF b) : valOkF (pairV a b).1 := by
  unfold pairV; split
  · exact ⟨ha.1, hb.1⟩
  · exact ⟨fOk_zero, fOk_zero⟩
end Go.Proofs.YtloodkhdngipbaaT
