/- Values: the same, right, nought. -/
import Derived.Test.YtpoalnlkhlchbaaKv0
import Derived.Test.YtpoalnlkhlchbaaKf0
namespace Go.Proofs.YtpoalnlkhlchbaaT
set_option linter.unusedVariables false
set_option linter.unusedSimpArgs false
open Go

/- spec.l1Plus -/
def c42 : TCode := (.seq (.ops [⟨(some 2), 4, .mv (.c (.b false)), none, []⟩])
  (.seq (.ops [⟨(some 3), 5, .mv (.t 0), none, []⟩, ⟨(some 4), 6, .bin .eql (.t 3) (.c (.f 0)), none, []⟩, ⟨(some 5), 7, .mv (.t 4), none, []⟩, ⟨(some 6), 8, .mv (.t 0), (some (5, true)), []⟩, ⟨(some 7), 9, .bin .quo (.c (.f 4607182418800017408)) (.t 6), (some (5, true)), []⟩, ⟨(some 8), 10, .bin .gtr (.t 7) (.c (.f 0)), (some (5, true)), []⟩, ⟨(some 9), 11, .pick (.t 5) (.t 8) (.c (.b false)), none, []⟩, ⟨(some 2), 4, .mv (.t 9), none, []⟩])
  .ret))
theorem k42 : compCode Try.prog Try.f42.ntmps Try.f42.body.get! = some c42 := by kernel_rfl
theorem r42 : resTmps Try.prog Try.f42.results.toList = some [.tmp 2] := by kernel_rfl
/- spec.l1Same -/
def c40 : TCode := (.seq (.ops [⟨(some 4), 6, .mv (.c (.b false)), none, []⟩])
  (.seq (.seq (.ops [⟨(some 5), 7, .mv (.t 0), none, []⟩, ⟨(some 6), 8, .mv (.t 0), none, []⟩, ⟨(some 7), 9, .bin .neq (.t 5) (.t 6), none, []⟩, ⟨(some 8), 10, .mv (.t 7), none, []⟩, ⟨(some 9), 11, .mv (.t 1), (some (8, false)), []⟩, ⟨(some 10), 12, .mv (.t 1), (some (8, false)), []⟩, ⟨(some 11), 13, .bin .neq (.t 9) (.t 10), (some (8, false)), []⟩, ⟨(some 12), 14, .pick (.t 8) (.c (.b true)) (.t 11), none, []⟩])
  (.cond (.t 12)
  (.seq (.ops [⟨(some 13), 15, .mv (.t 0), none, []⟩, ⟨(some 14), 16, .mv (.t 0), none, []⟩, ⟨(some 15), 17, .bin .neq (.t 13) (.t 14), none, []⟩, ⟨(some 16), 18, .mv (.t 15), none, []⟩, ⟨(some 17), 19, .mv (.t 1), (some (16, true)), []⟩, ⟨(some 18), 20, .mv (.t 1), (some (16, true)), []⟩, ⟨(some 19), 21, .bin .neq (.t 17) (.t 18), (some (16, true)), []⟩, ⟨(some 20), 22, .pick (.t 16) (.t 19) (.c (.b false)), none, []⟩, ⟨(some 4), 6, .mv (.t 20), none, []⟩])
  .ret)
  .skip))
  (.seq (.ops [⟨(some 21), 23, .mv (.t 0), none, []⟩, ⟨(some 22), 24, .mv (.t 1), none, []⟩, ⟨(some 23), 25, .bin .eql (.t 21) (.t 22), none, []⟩, ⟨(some 24), 26, .mv (.t 23), none, []⟩, ⟨(some 25), 27, .mv (.t 0), (some (24, true)), []⟩, ⟨(some 26), 28, .bin .neq (.t 25) (.c (.f 0)), (some (24, true)), []⟩, ⟨(some 27), 29, .mv (.t 26), (some (24, true)), []⟩, ⟨(some 28), 30, .mv (.t 0), (some (27, false)), []⟩, ⟨(some 29), 31, .call 42 [((.t 28), 0)], (some (27, false)), []⟩, ⟨(some 30), 32, .mv (.t 1), (some (27, false)), []⟩, ⟨(some 31), 33, .call 42 [((.t 30), 0)], (some (27, false)), []⟩, ⟨(some 32), 34, .eqs false false [.b] (.t 29) (.t 31), (some (27, false)), []⟩, ⟨(some 33), 35, .pick (.t 27) (.c (.b true)) (.t 32), (some (24, true)), []⟩, ⟨(some 34), 36, .pick (.t 24) (.t 33) (.c (.b false)), none, []⟩, ⟨(some 4), 6, .mv (.t 34), none, []⟩])
  .ret)))
theorem k40 : compCode Try.prog Try.f40.ntmps Try.f40.body.get! = some c40 := by kernel_rfl
theorem r40 : resTmps Try.prog Try.f40.results.toList = some [.tmp 4] := by kernel_rfl
/- laws.sameFloat -/
def c47 : TCode := (.seq (.ops [⟨(some 4), 6, .mv (.c (.b false)), none, []⟩])
  (.seq (.seq (.ops [⟨(some 5), 7, .mv (.t 0), none, []⟩, ⟨(some 6), 8, .mv (.t 0), none, []⟩, ⟨(some 7), 9, .bin .neq (.t 5) (.t 6), none, []⟩, ⟨(some 8), 10, .mv (.t 7), none, []⟩, ⟨(some 9), 11, .mv (.t 1), (some (8, false)), []⟩, ⟨(some 10), 12, .mv (.t 1), (some (8, false)), []⟩, ⟨(some 11), 13, .bin .neq (.t 9) (.t 10), (some (8, false)), []⟩, ⟨(some 12), 14, .pick (.t 8) (.c (.b true)) (.t 11), none, []⟩])
  (.cond (.t 12)
  (.seq (.ops [⟨(some 13), 15, .mv (.t 0), none, []⟩, ⟨(some 14), 16, .mv (.t 0), none, []⟩, ⟨(some 15), 17, .bin .neq (.t 13) (.t 14), none, []⟩, ⟨(some 16), 18, .mv (.t 15), none, []⟩, ⟨(some 17), 19, .mv (.t 1), (some (16, true)), []⟩, ⟨(some 18), 20, .mv (.t 1), (some (16, true)), []⟩, ⟨(some 19), 21, .bin .neq (.t 17) (.t 18), (some (16, true)), []⟩, ⟨(some 20), 22, .pick (.t 16) (.t 19) (.c (.b false)), none, []⟩, ⟨(some 4), 6, .mv (.t 20), none, []⟩])
  .ret)
  .skip))
  (.seq (.seq (.ops [⟨(some 21), 23, .mv (.t 0), none, []⟩, ⟨(some 22), 24, .bin .eql (.t 21) (.c (.f 0)), none, []⟩, ⟨(some 23), 25, .mv (.t 22), none, []⟩, ⟨(some 24), 26, .mv (.t 1), (some (23, true)), []⟩, ⟨(some 25), 27, .bin .eql (.t 24) (.c (.f 0)), (some (23, true)), []⟩, ⟨(some 26), 28, .pick (.t 23) (.t 25) (.c (.b false)), none, []⟩])
  (.cond (.t 26)
  (.seq (.ops [⟨(some 27), 29, .mv (.t 0), none, []⟩, ⟨(some 28), 30, .bin .quo (.c (.f 4607182418800017408)) (.t 27), none, []⟩, ⟨(some 29), 31, .bin .gtr (.t 28) (.c (.f 0)), none, []⟩, ⟨(some 30), 32, .mv (.t 1), none, []⟩, ⟨(some 31), 33, .bin .quo (.c (.f 4607182418800017408)) (.t 30), none, []⟩, ⟨(some 32), 34, .bin .gtr (.t 31) (.c (.f 0)), none, []⟩, ⟨(some 33), 35, .eqs false false [.b] (.t 29) (.t 32), none, []⟩, ⟨(some 4), 6, .mv (.t 33), none, []⟩])
  .ret)
  .skip))
  (.seq (.ops [⟨(some 34), 36, .mv (.t 0), none, []⟩, ⟨(some 35), 37, .mv (.t 1), none, []⟩, ⟨(some 36), 38, .bin .eql (.t 34) (.t 35), none, []⟩, ⟨(some 4), 6, .mv (.t 36), none, []⟩])
  .ret))))
theorem k47 : compCode Try.prog Try.f47.ntmps Try.f47.body.get! = some c47 := by kernel_rfl
theorem r47 : resTmps Try.prog Try.f47.results.toList = some [.tmp 4] := by kernel_rfl
/- laws.toVal -/
def c16 : TCode := (.seq (.ops [⟨(some 1), 3, .box 4 (.t 0), none, []⟩, ⟨(some 2), 4, .box 4 (.c (.ag [(.i .i64 0), (.i .i64 0), (.f 0), (.f 0)])), none, []⟩])
  (.seq (.ops [⟨(some 3), 5, .box 4 (.c (.ag [(.i .i64 0), (.i .i64 0), (.f 0), (.f 0)])), none, []⟩])
  (.seq (.ops [⟨(some 4), 6, .faddr 0 1 (.t 1), none, []⟩, ⟨(some 5), 7, .load false 1 (.t 4), none, []⟩, ⟨(some 6), 8, .faddr 0 1 (.t 3), none, []⟩, ⟨none, 1002003, .store 1 (.t 6) (.t 5), none, []⟩])
  (.seq (.ops [⟨(some 7), 9, .faddr 1 1 (.t 1), none, []⟩, ⟨(some 8), 10, .load false 1 (.t 7), none, []⟩, ⟨(some 9), 11, .faddr 1 1 (.t 3), none, []⟩, ⟨none, 1003003, .store 1 (.t 9) (.t 8), none, []⟩])
  (.seq (.ops [⟨(some 10), 12, .faddr 2 1 (.t 1), none, []⟩, ⟨(some 11), 13, .load false 1 (.t 10), none, []⟩, ⟨(some 12), 14, .faddr 2 1 (.t 3), none, []⟩, ⟨none, 1004003, .store 1 (.t 12) (.t 11), none, []⟩])
  (.seq (.ops [⟨(some 13), 15, .faddr 3 1 (.t 1), none, []⟩, ⟨(some 14), 16, .load false 1 (.t 13), none, []⟩, ⟨(some 15), 17, .faddr 3 1 (.t 3), none, []⟩, ⟨none, 1005003, .store 1 (.t 15) (.t 14), none, []⟩])
  (.seq (.ops [⟨(some 16), 18, .load true 4 (.t 3), none, []⟩, ⟨none, 1006001, .store 4 (.t 2) (.t 16), none, []⟩])
  .ret)))))))
theorem k16 : compCode Try.prog Try.f16.ntmps Try.f16.body.get! = some c16 := by kernel_rfl
theorem r16 : resTmps Try.prog Try.f16.results.toList = some [.cell 2 true 4] := by kernel_rfl
/- laws.eqVal -/
def c22 : TCode := (.seq (.ops [⟨(some 2), 4, .box 4 (.t 0), none, []⟩, ⟨(some 3), 5, .box 4 (.t 1), none, []⟩, ⟨(some 4), 6, .mv (.c (.b false)), none, []⟩])
  (.seq (.seq (.ops [⟨(some 5), 7, .faddr 0 1 (.t 2), none, []⟩, ⟨(some 6), 8, .load false 1 (.t 5), none, []⟩, ⟨(some 7), 9, .faddr 0 1 (.t 3), none, []⟩, ⟨(some 8), 10, .load false 1 (.t 7), none, []⟩, ⟨(some 9), 11, .bin .neq (.t 6) (.t 8), none, []⟩])
  (.cond (.t 9)
  (.seq (.ops [⟨(some 4), 6, .mv (.c (.b false)), none, []⟩])
  .ret)
  .skip))
  (.seq (.seq (.ops [⟨(some 10), 12, .faddr 1 1 (.t 2), none, []⟩, ⟨(some 11), 13, .load false 1 (.t 10), none, []⟩, ⟨(some 12), 14, .faddr 1 1 (.t 3), none, []⟩, ⟨(some 13), 15, .load false 1 (.t 12), none, []⟩, ⟨(some 14), 16, .bin .neq (.t 11) (.t 13), none, []⟩])
  (.cond (.t 14)
  (.seq (.ops [⟨(some 4), 6, .mv (.c (.b false)), none, []⟩])
  .ret)
  .skip))
  (.seq (.seq (.ops [⟨(some 15), 17, .faddr 2 1 (.t 2), none, []⟩, ⟨(some 16), 18, .load false 1 (.t 15), none, []⟩, ⟨(some 17), 19, .faddr 2 1 (.t 3), none, []⟩, ⟨(some 18), 20, .load false 1 (.t 17), none, []⟩, ⟨(some 19), 21, .call 47 [((.t 16), 0), ((.t 18), 0)], none, []⟩, ⟨(some 20), 22, .un .not (.t 19), none, []⟩])
  (.cond (.t 20)
  (.seq (.ops [⟨(some 4), 6, .mv (.c (.b false)), none, []⟩])
  .ret)
  .skip))
  (.seq (.seq (.ops [⟨(some 21), 23, .faddr 3 1 (.t 2), none, []⟩, ⟨(some 22), 24, .load false 1 (.t 21), none, []⟩, ⟨(some 23), 25, .faddr 3 1 (.t 3), none, []⟩, ⟨(some 24), 26, .load false 1 (.t 23), none, []⟩, ⟨(some 25), 27, .call 47 [((.t 22), 0), ((.t 24), 0)], none, []⟩, ⟨(some 26), 28, .un .not (.t 25), none, []⟩])
  (.cond (.t 26)
  (.seq (.ops [⟨(some 4), 6, .mv (.c (.b false)), none, []⟩])
  .ret)
  .skip))
  (.seq (.ops [⟨(some 4), 6, .mv (.c (.b true)), none, []⟩])
  .ret))))))
theorem k22 : compCode Try.prog Try.f22.ntmps Try.f22.body.get! = some c22 := by kernel_rfl
theorem r22 : resTmps Try.prog Try.f22.results.toList = some [.tmp 4] := by kernel_rfl
/- spec.ValSame -/
def c15 : TCode := (.seq (.ops [⟨(some 2), 4, .box 4 (.t 0), none, []⟩, ⟨(some 3), 5, .box 4 (.t 1), none, []⟩, ⟨(some 4), 6, .mv (.c (.b false)), none, []⟩])
  (.seq (.ops [⟨(some 5), 7, .faddr 0 1 (.t 2), none, []⟩, ⟨(some 6), 8, .load false 1 (.t 5), none, []⟩, ⟨(some 7), 9, .faddr 0 1 (.t 3), none, []⟩, ⟨(some 8), 10, .load false 1 (.t 7), none, []⟩, ⟨(some 9), 11, .bin .eql (.t 6) (.t 8), none, []⟩, ⟨(some 10), 12, .mv (.t 9), none, []⟩, ⟨(some 11), 13, .faddr 1 1 (.t 2), (some (10, true)), []⟩, ⟨(some 12), 14, .load false 1 (.t 11), (some (10, true)), []⟩, ⟨(some 13), 15, .faddr 1 1 (.t 3), (some (10, true)), []⟩, ⟨(some 14), 16, .load false 1 (.t 13), (some (10, true)), []⟩, ⟨(some 15), 17, .bin .eql (.t 12) (.t 14), (some (10, true)), []⟩, ⟨(some 16), 18, .pick (.t 10) (.t 15) (.c (.b false)), none, []⟩, ⟨(some 17), 19, .mv (.t 16), none, []⟩, ⟨(some 18), 20, .faddr 2 1 (.t 2), (some (17, true)), []⟩, ⟨(some 19), 21, .load false 1 (.t 18), (some (17, true)), []⟩, ⟨(some 20), 22, .faddr 2 1 (.t 3), (some (17, true)), []⟩, ⟨(some 21), 23, .load false 1 (.t 20), (some (17, true)), []⟩, ⟨(some 22), 24, .call 40 [((.t 19), 0), ((.t 21), 0)], (some (17, true)), []⟩, ⟨(some 23), 25, .pick (.t 17) (.t 22) (.c (.b false)), none, []⟩, ⟨(some 24), 26, .mv (.t 23), none, []⟩, ⟨(some 25), 27, .faddr 3 1 (.t 2), (some (24, true)), []⟩, ⟨(some 26), 28, .load false 1 (.t 25), (some (24, true)), []⟩, ⟨(some 27), 29, .faddr 3 1 (.t 3), (some (24, true)), []⟩, ⟨(some 28), 30, .load false 1 (.t 27), (some (24, true)), []⟩, ⟨(some 29), 31, .call 40 [((.t 26), 0), ((.t 28), 0)], (some (24, true)), []⟩, ⟨(some 30), 32, .pick (.t 24) (.t 29) (.c (.b false)), none, []⟩, ⟨(some 4), 6, .mv (.t 30), none, []⟩])
  .ret))
theorem k15 : compCode Try.prog Try.f15.ntmps Try.f15.body.get! = some c15 := by kernel_rfl
theorem r15 : resTmps Try.prog Try.f15.results.toList = some [.tmp 4] := by kernel_rfl
/- impl.ValSame -/
def c17 : TCode := (.seq (.ops [⟨(some 2), 4, .box 4 (.t 0), none, []⟩, ⟨(some 3), 5, .box 4 (.t 1), none, []⟩, ⟨(some 4), 6, .mv (.c (.b false)), none, []⟩])
  (.seq (.ops [⟨(some 5), 7, .faddr 0 1 (.t 2), none, []⟩, ⟨(some 6), 8, .load false 1 (.t 5), none, []⟩, ⟨(some 7), 9, .faddr 0 1 (.t 3), none, []⟩, ⟨(some 8), 10, .load false 1 (.t 7), none, []⟩, ⟨(some 9), 11, .bin .eql (.t 6) (.t 8), none, []⟩, ⟨(some 10), 12, .mv (.t 9), none, []⟩, ⟨(some 11), 13, .faddr 1 1 (.t 2), (some (10, true)), []⟩, ⟨(some 12), 14, .load false 1 (.t 11), (some (10, true)), []⟩, ⟨(some 13), 15, .faddr 1 1 (.t 3), (some (10, true)), []⟩, ⟨(some 14), 16, .load false 1 (.t 13), (some (10, true)), []⟩, ⟨(some 15), 17, .bin .eql (.t 12) (.t 14), (some (10, true)), []⟩, ⟨(some 16), 18, .pick (.t 10) (.t 15) (.c (.b false)), none, []⟩, ⟨(some 17), 19, .mv (.t 16), none, []⟩, ⟨(some 18), 20, .faddr 2 1 (.t 2), (some (17, true)), []⟩, ⟨(some 19), 21, .load false 1 (.t 18), (some (17, true)), []⟩, ⟨(some 20), 22, .faddr 2 1 (.t 3), (some (17, true)), []⟩, ⟨(some 21), 23, .load false 1 (.t 20), (some (17, true)), []⟩, ⟨(some 22), 24, .call 41 [((.t 19), 0), ((.t 21), 0)], (some (17, true)), []⟩, ⟨(some 23), 25, .pick (.t 17) (.t 22) (.c (.b false)), none, []⟩, ⟨(some 24), 26, .mv (.t 23), none, []⟩, ⟨(some 25), 27, .faddr 3 1 (.t 2), (some (24, true)), []⟩, ⟨(some 26), 28, .load false 1 (.t 25), (some (24, true)), []⟩, ⟨(some 27), 29, .faddr 3 1 (.t 3), (some (24, true)), []⟩, ⟨(some 28), 30, .load false 1 (.t 27), (some (24, true)), []⟩, ⟨(some 29), 31, .call 41 [((.t 26), 0), ((.t 28), 0)], (some (24, true)), []⟩, ⟨(some 30), 32, .pick (.t 24) (.t 29) (.c (.b false)), none, []⟩, ⟨(some 4), 6, .mv (.t 30), none, []⟩])
  .ret))
theorem k17 : compCode Try.prog Try.f17.ntmps Try.f17.body.get! = some c17 := by kernel_rfl
theorem r17 : resTmps Try.prog Try.f17.results.toList = some [.tmp 4] := by kernel_rfl
/- laws.FnExactValSame -/
def c3 : TCode := (.seq (.ops [⟨(some 2), 4, .box 4 (.t 0), none, []⟩, ⟨(some 3), 5, .box 4 (.t 1), none, []⟩, ⟨(some 4), 6, .mv (.c (.b false)), none, []⟩])
  (.seq (.draw [⟨(some 7), 9, .load true 4 (.t 2), none, []⟩, ⟨(some 8), 10, .call 16 [((.t 7), 0)], none, []⟩, ⟨(some 9), 11, .load true 4 (.t 3), none, [1]⟩, ⟨(some 10), 12, .call 16 [((.t 9), 0)], none, []⟩, ⟨(some 11), 13, .call 15 [((.t 8), 0), ((.t 10), 0)], none, []⟩, ⟨(some 5), 7, .mv (.t 11), none, []⟩])
  (.seq (.draw [⟨(some 12), 14, .load true 4 (.t 2), none, []⟩, ⟨(some 13), 15, .call 16 [((.t 12), 0)], none, []⟩, ⟨(some 14), 16, .load true 4 (.t 3), none, [1]⟩, ⟨(some 15), 17, .call 16 [((.t 14), 0)], none, []⟩, ⟨(some 16), 18, .call 17 [((.t 13), 0), ((.t 15), 0)], none, []⟩, ⟨(some 6), 8, .mv (.t 16), none, []⟩])
  (.seq (.seq (.ops [⟨(some 17), 19, .mv (.t 6), none, []⟩, ⟨(some 18), 20, .mv (.t 5), none, []⟩, ⟨(some 19), 21, .eqs true false [.b] (.t 17) (.t 18), none, []⟩])
  (.cond (.t 19)
  (.seq (.ops [⟨(some 4), 6, .mv (.c (.b false)), none, []⟩])
  .ret)
  .skip))
  (.seq (.ops [⟨(some 4), 6, .mv (.c (.b true)), none, []⟩])
  .ret)))))
theorem k3 : compCode Try.prog Try.f3.ntmps Try.f3.body.get! = some c3 := by kernel_rfl
theorem r3 : resTmps Try.prog Try.f3.results.toList = some [.tmp 4] := by kernel_rfl

theorem w42 (x : Nat) (hx : fOk x) : Contract Try.prog false 42 [.ro] [.f x] [.b (decide (x = 0))] [] := by
  refine mk_contract [] Try.func42 (c := Try.f42.body.get!) (by kernel_rfl) k42 r42 (of_decide_eq_true rfl) fun _ => ?_
  unfold c42; simp [feqz hx]
  by_cases h0 : x = 0
  · subst h0; simp [inv_zero, gt_infb]
  by_cases h1 : x = 9223372036854775808
  · subst h1; simp [inv_mzero, gt_minfb]
  simp [h0, h1]
theorem w40 (x y : Nat) (hx : fOk x) (hy : fOk y) : Contract Try.prog false 40 [.ro, .ro] [.f x, .f y] [.b (decide (x = y))] [] := by
  refine mk_contract [] Try.func40 (c := Try.f40.body.get!) (by kernel_rfl) k40 r40 (of_decide_eq_true rfl) fun _ => ?_
  unfold c40; simp [fne_self, feqb hx hy, fnez hx, fnez hy, feqz hx, feqz hy, inv_zero, inv_mzero, gt_infb, gt_minfb]
  by_cases nx : isN x
  · by_cases ny : isN y
    · simp [fne_self, feqb hx hy, fnez hx, fnez hy, feqz hx, feqz hy, inv_zero, inv_mzero, gt_infb, gt_minfb, nx, ny]; rw [fOk_nan hx nx, fOk_nan hy ny]
    · have : ¬ x = y := by rintro rfl; exact ny nx
      simp [fne_self, feqb hx hy, fnez hx, fnez hy, feqz hx, feqz hy, inv_zero, inv_mzero, gt_infb, gt_minfb, nx, ny, this]
  · by_cases ny : isN y
    · have : ¬ x = y := by rintro rfl; exact nx ny
      simp [fne_self, feqb hx hy, fnez hx, fnez hy, feqz hx, feqz hy, inv_zero, inv_mzero, gt_infb, gt_minfb, nx, ny, this]
    · simp [fne_self, feqb hx hy, fnez hx, fnez hy, feqz hx, feqz hy, inv_zero, inv_mzero, gt_infb, gt_minfb, nx, ny]
      by_cases hxy : x = y
      · subst hxy
        by_cases hz : rg x = 0
        · rcases (rg_zero hx).1 hz with rfl | rfl <;> simp [fne_self, feqb hx hy, fnez hx, fnez hy, feqz hx, feqz hy, inv_zero, inv_mzero, gt_infb, gt_minfb]
          · refine callW_ms [.ro] ?_
            simp
            refine callX_of (w42 0 hx) (by simp) ?_
            simp
            refine callW_ms [.ro] ?_
            simp
            refine callX_of (w42 0 hx) (by simp) ?_
            simp
          · refine callW_ms [.ro] ?_
            simp
            refine callX_of (w42 _ hx) (by simp) ?_
            simp
            refine callW_ms [.ro] ?_
            simp
            refine callX_of (w42 _ hx) (by simp) ?_
            simp
        · have hz2 := fun h => hz ((rg_zero hx).2 h)
          have h1 : ¬ x = 0 := fun h => hz2 (.inl h)
          have h2 : ¬ x = 9223372036854775808 := fun h => hz2 (.inr h)
          simp [fne_self, feqb hx hy, fnez hx, fnez hy, feqz hx, feqz hy, inv_zero, inv_mzero, gt_infb, gt_minfb, h1, h2]
      · by_cases hz : rg x = 0
        · by_cases hz' : rg y = 0
          · rcases (rg_zero hx).1 hz with rfl | rfl <;> rcases (rg_zero hy).1 hz' with rfl | rfl <;> simp [fne_self, feqb hx hy, fnez hx, fnez hy, feqz hx, feqz hy, inv_zero, inv_mzero, gt_infb, gt_minfb, hz, hz'] at hxy ⊢
            · refine callW_ms [.ro] ?_
              simp
              refine callX_of (w42 _ hx) (by simp) ?_
              simp
              refine callW_ms [.ro] ?_
              simp
              refine callX_of (w42 _ hy) (by simp) ?_
              simp
            · refine callW_ms [.ro] ?_
              simp
              refine callX_of (w42 _ hx) (by simp) ?_
              simp
              refine callW_ms [.ro] ?_
              simp
              refine callX_of (w42 _ hy) (by simp) ?_
              simp
          · simp [fne_self, feqb hx hy, fnez hx, fnez hy, feqz hx, feqz hy, inv_zero, inv_mzero, gt_infb, gt_minfb, hz, hz', hxy]
        · simp [fne_self, feqb hx hy, fnez hx, fnez hy, feqz hx, feqz hy, inv_zero, inv_mzero, gt_infb, gt_minfb, hz, hxy]
theorem w47 (x y : Nat) (hx : fOk x) (hy : fOk y) : Contract Try.prog false 47 [.ro, .ro] [.f x, .f y] [.b (decide (x = y))] [] := by
  refine mk_contract [] Try.func47 (c := Try.f47.body.get!) (by kernel_rfl) k47 r47 (of_decide_eq_true rfl) fun _ => ?_
  unfold c47; simp [fne_self, feqb hx hy, fnez hx, fnez hy, feqz hx, feqz hy, inv_zero, inv_mzero, gt_infb, gt_minfb]
  by_cases nx : isN x
  · by_cases ny : isN y
    · simp [fne_self, feqb hx hy, fnez hx, fnez hy, feqz hx, feqz hy, inv_zero, inv_mzero, gt_infb, gt_minfb, nx, ny]; rw [fOk_nan hx nx, fOk_nan hy ny]
    · have : ¬ x = y := by rintro rfl; exact ny nx
      simp [fne_self, feqb hx hy, fnez hx, fnez hy, feqz hx, feqz hy, inv_zero, inv_mzero, gt_infb, gt_minfb, nx, ny, this]
  · by_cases ny : isN y
    · have : ¬ x = y := by rintro rfl; exact nx ny
      simp [fne_self, feqb hx hy, fnez hx, fnez hy, feqz hx, feqz hy, inv_zero, inv_mzero, gt_infb, gt_minfb, nx, ny, this]
    · simp [fne_self, feqb hx hy, fnez hx, fnez hy, feqz hx, feqz hy, inv_zero, inv_mzero, gt_infb, gt_minfb, nx, ny]
      by_cases hz : rg x = 0
      · by_cases hz' : rg y = 0
        · rcases (rg_zero hx).1 hz with rfl | rfl <;> rcases (rg_zero hy).1 hz' with rfl | rfl <;> simp [fne_self, feqb hx hy, fnez hx, fnez hy, feqz hx, feqz hy, inv_zero, inv_mzero, gt_infb, gt_minfb, nx, ny, hz, hz']
        · have hz2 := fun h => hz' ((rg_zero hy).2 h)
          have h1 : ¬ y = 0 := fun h => hz2 (.inl h)
          have h2 : ¬ y = 9223372036854775808 := fun h => hz2 (.inr h)
          rcases (rg_zero hx).1 hz with rfl | rfl <;> simp [fne_self, feqb hx hy, fnez hx, fnez hy, feqz hx, feqz hy, inv_zero, inv_mzero, gt_infb, gt_minfb, h1, h2, hz, hz']
          all_goals exact fun _ => nx
      · have hz2 := fun h => hz ((rg_zero hx).2 h)
        have h1 : ¬ x = 0 := fun h => hz2 (.inl h)
        have h2 : ¬ x = 9223372036854775808 := fun h => hz2 (.inr h)
        simp [fne_self, feqb hx hy, fnez hx, fnez hy, feqz hx, feqz hy, inv_zero, inv_mzero, gt_infb, gt_minfb, h1, h2, hz]
        exact fun _ => nx

/-- A value: kind, whole number, two floats. -/
abbrev ValP := Int × Int × Nat × Nat
def valOkF (v : ValP) : Prop := fOk v.2.2.1 ∧ fOk v.2.2.2
@[simp] def vT (v : ValP) : List TV := [.i .i64 v.1, .i .i64 v.2.1, .f v.2.2.1, .f v.2.2.2]
@[simp] theorem fzL_vT (v : ValP) : fzL (vT v) = vT v := rfl
@[simp] theorem fzLL_vT (l : List (ValP)) : fzLL (l.map vT) = l.map vT := fzLL_map fzL_vT l
@[simp] theorem noROLL_vT (l : List (ValP)) : noROLL (l.map vT) = true := noROLL_map (fun _ => rfl) l
@[simp] theorem noref_vT (l : List (ValP)) : (l.map vT).all (·.all noref) = true := noref_map (fun _ => rfl) l
@[simp] theorem srcT_vT (H : Hp) (z : Nat) (l : List (ValP)) : srcT H (.sl false z (l.map vT)) = some (z, l.map vT, H, []) := by simp only [srcT, noref_vT, if_true]
def valV (v : ValP) : TV := .ag [.i .i64 v.1, .i .i64 v.2.1, .f v.2.2.1, .f v.2.2.2]
theorem val_ext {a b : ValP} : a = b ↔ a.1 = b.1 ∧ a.2.1 = b.2.1 ∧ a.2.2.1 = b.2.2.1 ∧ a.2.2.2 = b.2.2.2 := by
  obtain ⟨a1, a2, a3, a4⟩ := a; obtain ⟨b1, b2, b3, b4⟩ := b; simp
theorem w16 (v : ValP) : Contract Try.prog false 16 [.ro] [valV v] [valV v] [] := by
  refine mk_contract [] Try.func16 (c := Try.f16.body.get!) (by kernel_rfl) k16 r16 (of_decide_eq_true rfl) fun _ => ?_
  unfold c16; unfold valV; simp
theorem w22 (a b : ValP) (ha : valOkF a) (hb : valOkF b) : Contract Try.prog false 22 [.ro, .ro] [valV a, valV b] [.b (decide (a = b))] [] := by
  refine mk_contract [] Try.func22 (c := Try.f22.body.get!) (by kernel_rfl) k22 r22 (of_decide_eq_true rfl) fun _ => ?_
  unfold c22; unfold valV; simp
  rw [show decide (a = b) = decide (a.1 = b.1 ∧ a.2.1 = b.2.1 ∧ a.2.2.1 = b.2.2.1 ∧ a.2.2.2 = b.2.2.2) from decide_eq_decide.2 val_ext]
  by_cases h1 : a.1 = b.1
  · by_cases h2 : a.2.1 = b.2.1
    · simp [h1, h2]
      by_cases h3 : a.2.2.1 = b.2.2.1
      · refine callW_ms [.ro, .ro] ?_
        simp
        refine callX_of ((w47 _ _ ha.1 hb.1).t h3) (by simp) ?_
        simp
        by_cases h4 : a.2.2.2 = b.2.2.2
        · refine callW_ms [.ro, .ro] ?_
          simp
          refine callX_of ((w47 _ _ ha.2 hb.2).t h4) (by simp) ?_
          simp [h1, h2, h3, h4]
        · refine callW_ms [.ro, .ro] ?_
          simp
          refine callX_of ((w47 _ _ ha.2 hb.2).f h4) (by simp) ?_
          simp [h4]
      · refine callW_ms [.ro, .ro] ?_
        simp
        refine callX_of ((w47 _ _ ha.1 hb.1).f h3) (by simp) ?_
        simp [h3]
    · simp [val_ext, h1, h2]
  · simp [val_ext, h1]
theorem W47r (x : Nat) : Contract Try.prog false 47 [.ro, .ro] [.f x, .f x] [.b true] [] := by
  refine mk_contract [] Try.func47 (c := Try.f47.body.get!) (by kernel_rfl) k47 r47 (of_decide_eq_true rfl) fun _ => ?_
  unfold c47; simp [fne_self]
  by_cases nx : isN x
  · simp [nx, fne_self]
  · cases hz : FloatKind.f64.format.order x 0 == some .eq
    · simp [nx, fne_self, hz, feq_self nx]
    · simp [nx, fne_self, hz, feq_self nx]
theorem W22r (a : ValP) : Contract Try.prog false 22 [.ro, .ro] [valV a, valV a] [.b true] [] := by
  refine mk_contract [] Try.func22 (c := Try.f22.body.get!) (by kernel_rfl) k22 r22 (of_decide_eq_true rfl) fun _ => ?_
  unfold c22; unfold valV; simp
  refine callW_ms [.ro, .ro] ?_
  simp
  refine callX_of (W47r a.2.2.1) (by simp) ?_
  simp
  refine callW_ms [.ro, .ro] ?_
  simp
  refine callX_of (W47r a.2.2.2) (by simp) ?_
  simp

theorem w15 (a b : ValP) (ha : valOkF a) (hb : valOkF b) : Contract Try.prog false 15 [.ro, .ro] [valV a, valV b] [.b (decide (a = b))] [] := by
  refine mk_contract [] Try.func15 (c := Try.f15.body.get!) (by kernel_rfl) k15 r15 (of_decide_eq_true rfl) fun _ => ?_
  unfold c15; unfold valV; simp
  rw [show decide (a = b) = decide (a.1 = b.1 ∧ a.2.1 = b.2.1 ∧ a.2.2.1 = b.2.2.1 ∧ a.2.2.2 = b.2.2.2) from decide_eq_decide.2 val_ext]
  by_cases h1 : a.1 = b.1
  · by_cases h2 : a.2.1 = b.2.1
    · simp [h1, h2]
      by_cases h3 : a.2.2.1 = b.2.2.1
      · refine callW_ms [.ro, .ro] ?_
        simp
        refine callX_of ((w40 _ _ ha.1 hb.1).t h3) (by simp) ?_
        simp
        by_cases h4 : a.2.2.2 = b.2.2.2
        · refine callW_ms [.ro, .ro] ?_
          simp
          refine callX_of ((w40 _ _ ha.2 hb.2).t h4) (by simp) ?_
          simp [h1, h2, h3, h4]
        · refine callW_ms [.ro, .ro] ?_
          simp
          refine callX_of ((w40 _ _ ha.2 hb.2).f h4) (by simp) ?_
          simp [h4]
      · refine callW_ms [.ro, .ro] ?_
        simp
        refine callX_of ((w40 _ _ ha.1 hb.1).f h3) (by simp) ?_
        simp [h3]
    · simp [val_ext, h1, h2]
  · simp [val_ext, h1]
theorem w17 (a b : ValP) : Contract Try.prog false 17 [.ro, .ro] [valV a, valV b] [.b (decide (a = b))] [] := by
  refine mk_contract [] Try.func17 (c := Try.f17.body.get!) (by kernel_rfl) k17 r17 (of_decide_eq_true rfl) fun _ => ?_
  unfold c17; unfold valV; simp
  rw [show decide (a = b) = decide (a.1 = b.1 ∧ a.2.1 = b.2.1 ∧ a.2.2.1 = b.2.2.1 ∧ a.2.2.2 = b.2.2.2) from decide_eq_decide.2 val_ext]
  by_cases h1 : a.1 = b.1
  · by_cases h2 : a.2.1 = b.2.1
    · simp [h1, h2]
      by_cases h3 : a.2.2.1 = b.2.2.1
      · refine callW_ms [.ro, .ro] ?_
        simp
        refine callX_of ((w41 _ _).t h3) (by simp) ?_
        simp
        by_cases h4 : a.2.2.2 = b.2.2.2
        · refine callW_ms [.ro, .ro] ?_
          simp
          refine callX_of ((w41 _ _).t h4) (by simp) ?_
          simp [h1, h2, h3, h4]
        · refine callW_ms [.ro, .ro] ?_
          simp
          refine callX_of ((w41 _ _).f h4) (by simp) ?_
          simp [h4]
      · refine callW_ms [.ro, .ro] ?_
        simp
        refine callX_of ((w41 _ _).f h3) (by simp) ?_
        simp [h3]
    · simp [val_ext, h1, h2]
  · simp [val_ext, h1]
theorem w3 (a b : ValP) (ha : valOkF a) (hb : valOkF b) : Contract Try.prog false 3 [.ro, .ro] [valV a, valV b] [.b true] [] := by
  refine mk_contract [] Try.func3 (c := Try.f3.body.get!) (by kernel_rfl) k3 r3 (of_decide_eq_true rfl) fun _ => ?_
  unfold c3; unfold valV; simp
  refine callW_ms [.ro] ?_
  simp [valV]
  refine callX_of (w16 a) (by simp) ?_
  simp [valV]
  refine callW_ms [.ro] ?_
  simp [valV]
  refine callX_of (w16 b) (by simp) ?_
  simp [valV]
  refine callW_ms [.ro, .ro] ?_
  simp [valV]
  refine callX_of (w15 a b ha hb) (by simp) ?_
  simp
  refine callW_ms [.ro] ?_
  simp [valV]
  refine callX_of (w16 a) (by simp) ?_
  simp [valV]
  refine callW_ms [.ro] ?_
  simp [valV]
  refine callX_of (w16 b) (by simp) ?_
  simp [valV]
  refine callW_ms [.ro, .ro] ?_
  simp [valV]
  refine callX_of (w17 a b) (by simp) ?_
  simp
end Go.Proofs.YtpoalnlkhlchbaaT
