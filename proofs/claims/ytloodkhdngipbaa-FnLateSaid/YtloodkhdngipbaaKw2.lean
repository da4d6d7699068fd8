/- Streams: right, turned, sent to, read. -/
import Derived.Test.YtloodkhdngipbaaKw1
namespace Go.Proofs.YtloodkhdngipbaaT
set_option linter.unusedVariables false
set_option linter.unusedSimpArgs false
open Go

/- laws.szStream -/
def c15 : TCode := (.seq (.ops [⟨(some 2), 4, .box 3 (.t 0), none, []⟩, ⟨(some 4), 6, .mv (.c (.i .i64 0)), none, []⟩])
  (.seq (.ops [⟨(some 5), 7, .faddr 1 1 (.t 2), none, []⟩, ⟨(some 6), 8, .load false 1 (.t 5), none, []⟩, ⟨(some 7), 9, .mv (.t 1), none, []⟩, ⟨(some 8), 10, .call 70 [((.t 6), 0), ((.t 7), 0)], none, []⟩, ⟨(some 1), 3, .mv (.t 8), none, []⟩])
  (.seq (.seq (.ops [⟨(some 9), 11, .mv (.t 1), none, []⟩, ⟨(some 10), 12, .bin .lss (.t 9) (.c (.i .i64 0)), none, []⟩])
  (.cond (.t 10)
  (.seq (.ops [⟨(some 4), 6, .mv (.c (.i .i64 (-1))), none, []⟩])
  .ret)
  .skip))
  (.seq (.ops [⟨(some 11), 13, .faddr 2 1 (.t 2), none, []⟩, ⟨(some 12), 14, .load false 1 (.t 11), none, []⟩, ⟨(some 13), 15, .mv (.t 1), none, []⟩, ⟨(some 14), 16, .call 70 [((.t 12), 0), ((.t 13), 0)], none, []⟩, ⟨(some 1), 3, .mv (.t 14), none, []⟩])
  (.seq (.seq (.ops [⟨(some 15), 17, .mv (.t 1), none, []⟩, ⟨(some 16), 18, .bin .lss (.t 15) (.c (.i .i64 0)), none, []⟩])
  (.cond (.t 16)
  (.seq (.ops [⟨(some 4), 6, .mv (.c (.i .i64 (-1))), none, []⟩])
  .ret)
  .skip))
  (.seq (.ops [⟨(some 17), 19, .mv (.t 1), none, []⟩, ⟨(some 4), 6, .mv (.t 17), none, []⟩])
  .ret))))))
theorem k15 : compCode Try.prog Try.f15.ntmps Try.f15.body.get! = some c15 := by kernel_rfl
theorem r15 : resTmps Try.prog Try.f15.results.toList = some [.tmp 4] := by kernel_rfl
/- laws.toStream -/
def c17 : TCode := (.seq (.ops [⟨(some 1), 3, .box 3 (.t 0), none, []⟩, ⟨(some 2), 4, .box 3 (.c (.ag [(.i .i64 0), (.sl true 4 []), (.sl true 4 [])])), none, []⟩])
  (.seq (.ops [⟨(some 3), 5, .box 3 (.c (.ag [(.i .i64 0), (.sl true 4 []), (.sl true 4 [])])), none, []⟩])
  (.seq (.ops [⟨(some 4), 6, .faddr 0 1 (.t 1), none, []⟩, ⟨(some 5), 7, .load false 1 (.t 4), none, []⟩, ⟨(some 6), 8, .faddr 0 1 (.t 3), none, []⟩, ⟨none, 1002003, .store 1 (.t 6) (.t 5), none, []⟩])
  (.seq (.ops [⟨(some 7), 9, .faddr 1 1 (.t 1), none, []⟩, ⟨(some 8), 10, .load false 1 (.t 7), none, []⟩, ⟨(some 9), 11, .call 73 [((.t 8), 0)], none, []⟩, ⟨(some 10), 12, .faddr 1 1 (.t 3), none, []⟩, ⟨none, 1003004, .store 1 (.t 10) (.t 9), none, []⟩])
  (.seq (.ops [⟨(some 11), 13, .faddr 2 1 (.t 1), none, []⟩, ⟨(some 12), 14, .load false 1 (.t 11), none, []⟩, ⟨(some 13), 15, .call 73 [((.t 12), 0)], none, []⟩, ⟨(some 14), 16, .faddr 2 1 (.t 3), none, []⟩, ⟨none, 1004004, .store 1 (.t 14) (.t 13), none, []⟩])
  (.seq (.ops [⟨(some 15), 17, .load true 3 (.t 3), none, []⟩, ⟨none, 1005001, .store 3 (.t 2) (.t 15), none, []⟩])
  .ret))))))
theorem k17 : compCode Try.prog Try.f17.ntmps Try.f17.body.get! = some c17 := by kernel_rfl
theorem r17 : resTmps Try.prog Try.f17.results.toList = some [.cell 2 true 3] := by kernel_rfl
/- laws.eqStream -/
def c19 : TCode := (.seq (.ops [⟨(some 2), 4, .box 3 (.t 0), none, []⟩, ⟨(some 3), 5, .box 3 (.t 1), none, []⟩, ⟨(some 4), 6, .mv (.c (.b false)), none, []⟩])
  (.seq (.seq (.ops [⟨(some 5), 7, .faddr 0 1 (.t 2), none, []⟩, ⟨(some 6), 8, .load false 1 (.t 5), none, []⟩, ⟨(some 7), 9, .faddr 0 1 (.t 3), none, []⟩, ⟨(some 8), 10, .load false 1 (.t 7), none, []⟩, ⟨(some 9), 11, .bin .neq (.t 6) (.t 8), none, []⟩])
  (.cond (.t 9)
  (.seq (.ops [⟨(some 4), 6, .mv (.c (.b false)), none, []⟩])
  .ret)
  .skip))
  (.seq (.seq (.ops [⟨(some 10), 12, .faddr 1 1 (.t 2), none, []⟩, ⟨(some 11), 13, .load false 1 (.t 10), none, []⟩, ⟨(some 12), 14, .faddr 1 1 (.t 3), none, []⟩, ⟨(some 13), 15, .load false 1 (.t 12), none, []⟩, ⟨(some 14), 16, .call 26 [((.t 11), 0), ((.t 13), 0)], none, []⟩, ⟨(some 15), 17, .un .not (.t 14), none, []⟩])
  (.cond (.t 15)
  (.seq (.ops [⟨(some 4), 6, .mv (.c (.b false)), none, []⟩])
  .ret)
  .skip))
  (.seq (.seq (.ops [⟨(some 16), 18, .faddr 2 1 (.t 2), none, []⟩, ⟨(some 17), 19, .load false 1 (.t 16), none, []⟩, ⟨(some 18), 20, .faddr 2 1 (.t 3), none, []⟩, ⟨(some 19), 21, .load false 1 (.t 18), none, []⟩, ⟨(some 20), 22, .call 26 [((.t 17), 0), ((.t 19), 0)], none, []⟩, ⟨(some 21), 23, .un .not (.t 20), none, []⟩])
  (.cond (.t 21)
  (.seq (.ops [⟨(some 4), 6, .mv (.c (.b false)), none, []⟩])
  .ret)
  .skip))
  (.seq (.ops [⟨(some 4), 6, .mv (.c (.b true)), none, []⟩])
  .ret)))))
theorem k19 : compCode Try.prog Try.f19.ntmps Try.f19.body.get! = some c19 := by kernel_rfl
theorem r19 : resTmps Try.prog Try.f19.results.toList = some [.tmp 4] := by kernel_rfl
/- laws.markStream -/
def c22 : TCode := (.seq (.ops [⟨(some 2), 4, .box 3 (.t 0), none, []⟩, ⟨(some 4), 6, .mv (.c (.i .i64 0)), none, []⟩])
  (.seq (.ops [⟨(some 5), 7, .faddr 1 1 (.t 2), none, []⟩, ⟨(some 6), 8, .load false 1 (.t 5), none, []⟩, ⟨(some 7), 9, .mv (.t 1), none, []⟩, ⟨(some 8), 10, .call 27 [((.t 6), 0), ((.t 7), 0)], none, []⟩, ⟨(some 1), 3, .mv (.t 8), none, []⟩])
  (.seq (.ops [⟨(some 9), 11, .faddr 2 1 (.t 2), none, []⟩, ⟨(some 10), 12, .load false 1 (.t 9), none, []⟩, ⟨(some 11), 13, .mv (.t 1), none, []⟩, ⟨(some 12), 14, .call 27 [((.t 10), 0), ((.t 11), 0)], none, []⟩, ⟨(some 1), 3, .mv (.t 12), none, []⟩])
  (.seq (.ops [⟨(some 13), 15, .mv (.t 1), none, []⟩, ⟨(some 4), 6, .mv (.t 13), none, []⟩])
  .ret))))
theorem k22 : compCode Try.prog Try.f22.ntmps Try.f22.body.get! = some c22 := by kernel_rfl
theorem r22 : resTmps Try.prog Try.f22.results.toList = some [.tmp 4] := by kernel_rfl
/- laws.heldStream -/
def c23 : TCode := (.seq (.ops [⟨(some 2), 4, .box 3 (.t 0), none, []⟩, ⟨(some 4), 6, .mv (.c (.i .i64 0)), none, []⟩])
  (.seq (.ops [⟨(some 5), 7, .faddr 1 1 (.t 2), none, []⟩, ⟨(some 6), 8, .load false 1 (.t 5), none, []⟩, ⟨(some 7), 9, .mv (.t 1), none, []⟩, ⟨(some 8), 10, .call 28 [((.t 6), 0), ((.t 7), 0)], none, []⟩, ⟨(some 1), 3, .mv (.t 8), none, []⟩])
  (.seq (.seq (.ops [⟨(some 9), 11, .mv (.t 1), none, []⟩, ⟨(some 10), 12, .bin .lss (.t 9) (.c (.i .i64 0)), none, []⟩])
  (.cond (.t 10)
  (.seq (.ops [⟨(some 4), 6, .mv (.c (.i .i64 (-1))), none, []⟩])
  .ret)
  .skip))
  (.seq (.ops [⟨(some 11), 13, .faddr 2 1 (.t 2), none, []⟩, ⟨(some 12), 14, .load false 1 (.t 11), none, []⟩, ⟨(some 13), 15, .mv (.t 1), none, []⟩, ⟨(some 14), 16, .call 28 [((.t 12), 0), ((.t 13), 0)], none, []⟩, ⟨(some 1), 3, .mv (.t 14), none, []⟩])
  (.seq (.seq (.ops [⟨(some 15), 17, .mv (.t 1), none, []⟩, ⟨(some 16), 18, .bin .lss (.t 15) (.c (.i .i64 0)), none, []⟩])
  (.cond (.t 16)
  (.seq (.ops [⟨(some 4), 6, .mv (.c (.i .i64 (-1))), none, []⟩])
  .ret)
  .skip))
  (.seq (.ops [⟨(some 17), 19, .mv (.t 1), none, []⟩, ⟨(some 4), 6, .mv (.t 17), none, []⟩])
  .ret))))))
theorem k23 : compCode Try.prog Try.f23.ntmps Try.f23.body.get! = some c23 := by kernel_rfl
theorem r23 : resTmps Try.prog Try.f23.results.toList = some [.tmp 4] := by kernel_rfl
/- impl.isOf -/
def c81 : TCode := (.seq (.ops [⟨(some 2), 4, .box 4 (.t 0), none, []⟩, ⟨(some 4), 6, .mv (.c (.b false)), none, []⟩])
  (.seq (.ops [⟨(some 5), 7, .faddr 0 1 (.t 2), none, []⟩, ⟨(some 6), 8, .load false 1 (.t 5), none, []⟩, ⟨(some 7), 9, .mv (.t 1), none, []⟩, ⟨(some 8), 10, .bin .eql (.t 6) (.t 7), none, []⟩, ⟨(some 9), 11, .mv (.t 8), none, []⟩, ⟨(some 10), 12, .load true 4 (.t 2), (some (9, true)), []⟩, ⟨(some 11), 13, .call 128 [((.t 10), 0)], (some (9, true)), []⟩, ⟨(some 12), 14, .pick (.t 9) (.t 11) (.c (.b false)), none, []⟩, ⟨(some 4), 6, .mv (.t 12), none, []⟩])
  .ret))
theorem k81 : compCode Try.prog Try.f81.ntmps Try.f81.body.get! = some c81 := by kernel_rfl
theorem r81 : resTmps Try.prog Try.f81.results.toList = some [.tmp 4] := by kernel_rfl
/- impl.areOf -/
def c75 : TCode := (.seq (.ops [⟨(some 4), 6, .mv (.c (.b false)), none, []⟩])
  (.seq (.seq (.ops [⟨(some 7), 9, .mv (.t 0), none, []⟩, ⟨(some 8), 10, .len false (.t 7), none, []⟩, ⟨(some 9), 11, .mv (.c (.i .i64 0)), none, []⟩])
  (.block 0 (.loop (.seq (.ops [⟨(some 10), 12, .bin .lss (.t 9) (.t 8), none, []⟩])
  (.seq (.cond (.t 10)
  .skip
  (.exit 0))
  (.seq (.block 1 (.seq (.ops [⟨(some 11), 13, .iaddr 4 (.t 7) (.t 9), none, []⟩, ⟨(some 12), 14, .load true 4 (.t 11), none, []⟩, ⟨(some 6), 8, .box 4 (.c (.ag [(.i .i64 0), (.i .i64 0), (.f 0), (.f 0)])), none, []⟩, ⟨none, 1003003, .store 4 (.t 6) (.t 12), none, []⟩])
  (.seq (.ops [⟨(some 13), 15, .load true 4 (.t 6), none, []⟩, ⟨(some 14), 16, .mv (.t 1), none, []⟩, ⟨(some 15), 17, .call 81 [((.t 13), 0), ((.t 14), 0)], none, []⟩, ⟨(some 16), 18, .un .not (.t 15), none, []⟩])
  (.cond (.t 16)
  (.seq (.ops [⟨(some 4), 6, .mv (.c (.b false)), none, []⟩])
  .ret)
  .skip))))
  (.ops [⟨(some 17), 19, .bin .add (.t 9) (.c (.i .i64 1)), none, []⟩, ⟨(some 9), 11, .mv (.t 17), none, []⟩])))))))
  (.seq (.ops [⟨(some 18), 20, .mv (.t 0), none, []⟩, ⟨(some 19), 21, .len false (.t 18), none, []⟩, ⟨(some 20), 22, .bin .leq (.t 19) (.c (.i .i64 200)), none, []⟩, ⟨(some 4), 6, .mv (.t 20), none, []⟩])
  .ret)))
theorem k75 : compCode Try.prog Try.f75.ntmps Try.f75.body.get! = some c75 := by kernel_rfl
theorem r75 : resTmps Try.prog Try.f75.results.toList = some [.tmp 4] := by kernel_rfl
/- impl.StreamOk -/
def c18 : TCode := (.seq (.ops [⟨(some 3), 5, .box 3 (.t 1), none, []⟩, ⟨(some 4), 6, .mv (.c (.b false)), none, []⟩])
  (.seq (.ops [⟨(some 5), 7, .faddr 0 1 (.t 3), none, []⟩, ⟨(some 6), 8, .load false 1 (.t 5), none, []⟩, ⟨(some 7), 9, .call 74 [((.t 6), 0), ((.c (.i .i64 0)), 0), ((.c (.i .i64 1000000000000)), 0)], none, []⟩, ⟨(some 8), 10, .mv (.t 7), none, []⟩, ⟨(some 9), 11, .faddr 1 1 (.t 3), (some (8, true)), []⟩, ⟨(some 10), 12, .load false 1 (.t 9), (some (8, true)), []⟩, ⟨(some 11), 13, .mv (.t 0), (some (8, true)), []⟩, ⟨(some 12), 14, .call 75 [((.t 10), 0), ((.t 11), 0)], (some (8, true)), []⟩, ⟨(some 13), 15, .pick (.t 8) (.t 12) (.c (.b false)), none, []⟩, ⟨(some 14), 16, .mv (.t 13), none, []⟩, ⟨(some 15), 17, .faddr 2 1 (.t 3), (some (14, true)), []⟩, ⟨(some 16), 18, .load false 1 (.t 15), (some (14, true)), []⟩, ⟨(some 17), 19, .mv (.t 0), (some (14, true)), []⟩, ⟨(some 18), 20, .call 75 [((.t 16), 0), ((.t 17), 0)], (some (14, true)), []⟩, ⟨(some 19), 21, .pick (.t 14) (.t 18) (.c (.b false)), none, []⟩, ⟨(some 4), 6, .mv (.t 19), none, []⟩])
  .ret))
theorem k18 : compCode Try.prog Try.f18.ntmps Try.f18.body.get! = some c18 := by kernel_rfl
theorem r18 : resTmps Try.prog Try.f18.results.toList = some [.tmp 4] := by kernel_rfl
/- spec.l6ValsOk -/
def c72 : TCode := (.seq (.ops [⟨(some 4), 6, .mv (.c (.b false)), none, []⟩])
  (.seq (.seq (.ops [⟨(some 6), 8, .mv (.t 1), none, []⟩, ⟨(some 7), 9, .len false (.t 6), none, []⟩, ⟨(some 8), 10, .bin .gtr (.t 7) (.c (.i .i64 200)), none, []⟩])
  (.cond (.t 8)
  (.seq (.ops [⟨(some 4), 6, .mv (.c (.b false)), none, []⟩])
  .ret)
  .skip))
  (.seq (.seq (.ops [⟨(some 5), 7, .mv (.c (.i .i64 0)), none, []⟩])
  (.block 0 (.loop (.seq (.seq (.ops [⟨(some 9), 11, .mv (.t 5), none, []⟩, ⟨(some 10), 12, .mv (.t 1), none, []⟩, ⟨(some 11), 13, .len false (.t 10), none, []⟩, ⟨(some 12), 14, .bin .lss (.t 9) (.t 11), none, []⟩])
  (.cond (.t 12)
  .skip
  (.exit 0)))
  (.seq (.block 1 (.seq (.ops [⟨(some 15), 17, .mv (.t 1), none, []⟩, ⟨(some 16), 18, .mv (.t 5), none, []⟩, ⟨(some 17), 19, .iaddr 4 (.t 15) (.t 16), none, []⟩, ⟨(some 18), 20, .load true 4 (.t 17), none, []⟩, ⟨(some 19), 21, .call 79 [((.t 18), 0)], none, []⟩, ⟨(some 20), 22, .un .not (.t 19), none, []⟩, ⟨(some 21), 23, .mv (.t 20), none, []⟩, ⟨(some 22), 24, .mv (.t 1), (some (21, false)), []⟩, ⟨(some 23), 25, .mv (.t 5), (some (21, false)), []⟩, ⟨(some 24), 26, .iaddr 4 (.t 22) (.t 23), (some (21, false)), []⟩, ⟨(some 25), 27, .faddr 0 1 (.t 24), (some (21, false)), []⟩, ⟨(some 26), 28, .load false 1 (.t 25), (some (21, false)), []⟩, ⟨(some 27), 29, .mv (.t 0), (some (21, false)), []⟩, ⟨(some 28), 30, .bin .neq (.t 26) (.t 27), (some (21, false)), []⟩, ⟨(some 29), 31, .pick (.t 21) (.c (.b true)) (.t 28), none, []⟩])
  (.cond (.t 29)
  (.seq (.ops [⟨(some 4), 6, .mv (.c (.b false)), none, []⟩])
  .ret)
  .skip)))
  (.ops [⟨(some 13), 15, .mv (.t 5), none, []⟩, ⟨(some 14), 16, .bin .add (.t 13) (.c (.i .i64 1)), none, []⟩, ⟨(some 5), 7, .mv (.t 14), none, []⟩]))))))
  (.seq (.ops [⟨(some 4), 6, .mv (.c (.b true)), none, []⟩])
  .ret))))
theorem k72 : compCode Try.prog Try.f72.ntmps Try.f72.body.get! = some c72 := by kernel_rfl
theorem r72 : resTmps Try.prog Try.f72.results.toList = some [.tmp 4] := by kernel_rfl
/- spec.StreamOk -/
def c16 : TCode := (.seq (.ops [⟨(some 3), 5, .box 3 (.t 1), none, []⟩, ⟨(some 4), 6, .mv (.c (.b false)), none, []⟩])
  (.seq (.ops [⟨(some 5), 7, .faddr 0 1 (.t 3), none, []⟩, ⟨(some 6), 8, .load false 1 (.t 5), none, []⟩, ⟨(some 7), 9, .call 71 [((.t 6), 0), ((.c (.i .i64 0)), 0), ((.c (.i .i64 1000000000000)), 0)], none, []⟩, ⟨(some 8), 10, .mv (.t 7), none, []⟩, ⟨(some 9), 11, .mv (.t 0), (some (8, true)), []⟩, ⟨(some 10), 12, .faddr 1 1 (.t 3), (some (8, true)), []⟩, ⟨(some 11), 13, .load false 1 (.t 10), (some (8, true)), []⟩, ⟨(some 12), 14, .call 72 [((.t 9), 0), ((.t 11), 0)], (some (8, true)), []⟩, ⟨(some 13), 15, .pick (.t 8) (.t 12) (.c (.b false)), none, []⟩, ⟨(some 14), 16, .mv (.t 13), none, []⟩, ⟨(some 15), 17, .mv (.t 0), (some (14, true)), []⟩, ⟨(some 16), 18, .faddr 2 1 (.t 3), (some (14, true)), []⟩, ⟨(some 17), 19, .load false 1 (.t 16), (some (14, true)), []⟩, ⟨(some 18), 20, .call 72 [((.t 15), 0), ((.t 17), 0)], (some (14, true)), []⟩, ⟨(some 19), 21, .pick (.t 14) (.t 18) (.c (.b false)), none, []⟩, ⟨(some 4), 6, .mv (.t 19), none, []⟩])
  .ret))
theorem k16 : compCode Try.prog Try.f16.ntmps Try.f16.body.get! = some c16 := by kernel_rfl
theorem r16 : resTmps Try.prog Try.f16.results.toList = some [.tmp 4] := by kernel_rfl
/- laws.FnExactStreamOk -/
def c3 : TCode := (.seq (.ops [⟨(some 3), 5, .box 3 (.t 1), none, []⟩, ⟨(some 4), 6, .mv (.c (.b false)), none, []⟩])
  (.seq (.ops [⟨(some 5), 7, .mv (.c (.i .i64 1048576)), none, []⟩])
  (.seq (.ops [⟨(some 9), 11, .load true 3 (.t 3), none, []⟩, ⟨(some 10), 12, .mv (.t 5), none, []⟩, ⟨(some 11), 13, .call 15 [((.t 9), 0), ((.t 10), 0)], none, []⟩, ⟨(some 5), 7, .mv (.t 11), none, []⟩])
  (.seq (.seq (.ops [⟨(some 12), 14, .mv (.t 5), none, []⟩, ⟨(some 13), 15, .bin .lss (.t 12) (.c (.i .i64 0)), none, []⟩])
  (.cond (.t 13)
  (.seq (.ops [⟨(some 4), 6, .mv (.c (.b true)), none, []⟩])
  .ret)
  .skip))
  (.seq (.ops [⟨(some 14), 16, .mv (.t 0), none, []⟩, ⟨(some 15), 17, .load true 3 (.t 3), none, []⟩, ⟨(some 16), 18, .call 17 [((.t 15), 0)], none, []⟩, ⟨(some 17), 19, .call 16 [((.t 14), 0), ((.t 16), 0)], none, []⟩, ⟨(some 6), 8, .mv (.t 17), none, []⟩])
  (.seq (.ops [⟨(some 18), 20, .load true 3 (.t 3), none, []⟩, ⟨(some 19), 21, .call 17 [((.t 18), 0)], none, []⟩, ⟨(some 7), 9, .box 3 (.c (.ag [(.i .i64 0), (.sl true 4 []), (.sl true 4 [])])), none, []⟩, ⟨none, 1006003, .store 3 (.t 7) (.t 19), none, []⟩])
  (.seq (.ops [⟨(some 20), 22, .mv (.t 0), none, []⟩, ⟨(some 21), 23, .load true 3 (.t 7), none, []⟩, ⟨(some 22), 24, .call 18 [((.t 20), 0), ((.t 21), 0)], none, []⟩, ⟨(some 8), 10, .mv (.t 22), none, []⟩])
  (.seq (.seq (.ops [⟨(some 23), 25, .mv (.t 8), none, []⟩, ⟨(some 24), 26, .mv (.t 6), none, []⟩, ⟨(some 25), 27, .eqs true false [.b] (.t 23) (.t 24), none, []⟩])
  (.cond (.t 25)
  (.seq (.ops [⟨(some 4), 6, .mv (.c (.b false)), none, []⟩])
  .ret)
  .skip))
  (.seq (.seq (.draw [⟨(some 26), 28, .load true 3 (.t 7), none, []⟩, ⟨(some 27), 29, .load true 3 (.t 3), none, []⟩, ⟨(some 28), 30, .call 17 [((.t 27), 0)], none, [0]⟩, ⟨(some 29), 31, .call 19 [((.t 26), 0), ((.t 28), 0)], none, []⟩, ⟨(some 30), 32, .un .not (.t 29), none, []⟩])
  (.cond (.t 30)
  (.seq (.ops [⟨(some 4), 6, .mv (.c (.b false)), none, []⟩])
  .ret)
  .skip))
  (.seq (.ops [⟨(some 4), 6, .mv (.c (.b true)), none, []⟩])
  .ret))))))))))
theorem k3 : compCode Try.prog Try.f3.ntmps Try.f3.body.get! = some c3 := by kernel_rfl
theorem r3 : resTmps Try.prog Try.f3.results.toList = some [.tmp 4] := by kernel_rfl
/- spec.l6Copy -/
def c78 : TCode := (.seq (.ops [⟨(some 1), 3, .box 3 (.t 0), none, []⟩, ⟨(some 2), 4, .box 3 (.c (.ag [(.i .i64 0), (.sl true 4 []), (.sl true 4 [])])), none, []⟩])
  (.seq (.draw [⟨(some 3), 5, .faddr 0 1 (.t 1), none, []⟩, ⟨(some 4), 6, .load false 1 (.t 3), none, []⟩, ⟨(some 5), 7, .bslice 4 0 [(.i .i64 0), (.i .i64 0), (.f 0), (.f 0)] [], none, [0, 1]⟩, ⟨(some 6), 8, .faddr 1 1 (.t 1), none, [2]⟩, ⟨(some 7), 9, .load false 1 (.t 6), none, [2]⟩, ⟨(some 8), 10, .app 4 32 (.t 5) (.t 7), none, [0, 1]⟩, ⟨(some 9), 11, .bslice 4 0 [(.i .i64 0), (.i .i64 0), (.f 0), (.f 0)] [], none, [0, 1, 2, 3, 4, 5]⟩, ⟨(some 10), 12, .faddr 2 1 (.t 1), none, [2, 5, 6]⟩, ⟨(some 11), 13, .load false 1 (.t 10), none, [2, 5, 6]⟩, ⟨(some 12), 14, .app 4 32 (.t 9) (.t 11), none, [0, 1]⟩, ⟨(some 13), 15, .build [(.i .i64 0), (.sl true 4 []), (.sl true 4 [])] [(0, 1, (.t 4)), (1, 1, (.t 8)), (2, 1, (.t 12))], none, []⟩, ⟨none, 1001011, .store 3 (.t 2) (.t 13), none, []⟩])
  .ret))
theorem k78 : compCode Try.prog Try.f78.ntmps Try.f78.body.get! = some c78 := by kernel_rfl
theorem r78 : resTmps Try.prog Try.f78.results.toList = some [.cell 2 true 3] := by kernel_rfl
/- impl.copyStream -/
def c80 : TCode := (.seq (.ops [⟨(some 1), 3, .box 3 (.t 0), none, []⟩, ⟨(some 2), 4, .box 3 (.c (.ag [(.i .i64 0), (.sl true 4 []), (.sl true 4 [])])), none, []⟩])
  (.seq (.draw [⟨(some 3), 5, .faddr 0 1 (.t 1), none, []⟩, ⟨(some 4), 6, .load false 1 (.t 3), none, []⟩, ⟨(some 5), 7, .faddr 1 1 (.t 1), none, []⟩, ⟨(some 6), 8, .load false 1 (.t 5), none, []⟩, ⟨(some 7), 9, .call 76 [((.t 6), 0)], none, [0, 1]⟩, ⟨(some 8), 10, .faddr 2 1 (.t 1), none, [4]⟩, ⟨(some 9), 11, .load false 1 (.t 8), none, [4]⟩, ⟨(some 10), 12, .call 76 [((.t 9), 0)], none, [0, 1]⟩, ⟨(some 11), 13, .build [(.i .i64 0), (.sl true 4 []), (.sl true 4 [])] [(0, 1, (.t 4)), (1, 1, (.t 7)), (2, 1, (.t 10))], none, []⟩, ⟨none, 1001009, .store 3 (.t 2) (.t 11), none, []⟩])
  .ret))
theorem k80 : compCode Try.prog Try.f80.ntmps Try.f80.body.get! = some c80 := by kernel_rfl
theorem r80 : resTmps Try.prog Try.f80.results.toList = some [.cell 2 true 3] := by kernel_rfl
/- spec.Turn -/
def c20 : TCode := (.seq (.ops [⟨(some 1), 3, .box 3 (.t 0), none, []⟩, ⟨(some 2), 4, .box 3 (.c (.ag [(.i .i64 0), (.sl true 4 []), (.sl true 4 [])])), none, []⟩])
  (.seq (.ops [⟨(some 4), 6, .bslice 4 0 [(.i .i64 0), (.i .i64 0), (.f 0), (.f 0)] [], none, []⟩, ⟨(some 5), 7, .faddr 2 1 (.t 1), none, []⟩, ⟨(some 6), 8, .load false 1 (.t 5), none, []⟩, ⟨(some 7), 9, .app 4 32 (.t 4) (.t 6), none, []⟩, ⟨(some 8), 10, .build [(.i .i64 0), (.sl true 4 []), (.sl true 4 [])] [(1, 1, (.t 7))], none, []⟩, ⟨(some 3), 5, .box 3 (.c (.ag [(.i .i64 0), (.sl true 4 []), (.sl true 4 [])])), none, []⟩, ⟨none, 1001006, .store 3 (.t 3) (.t 8), none, []⟩])
  (.seq (.seq (.ops [⟨(some 9), 11, .faddr 0 1 (.t 1), none, []⟩, ⟨(some 10), 12, .load false 1 (.t 9), none, []⟩, ⟨(some 11), 13, .bin .geq (.t 10) (.c (.i .i64 0)), none, []⟩, ⟨(some 12), 14, .mv (.t 11), none, []⟩, ⟨(some 13), 15, .faddr 0 1 (.t 1), (some (12, true)), []⟩, ⟨(some 14), 16, .load false 1 (.t 13), (some (12, true)), []⟩, ⟨(some 15), 17, .faddr 1 1 (.t 1), (some (12, true)), []⟩, ⟨(some 16), 18, .load false 1 (.t 15), (some (12, true)), []⟩, ⟨(some 17), 19, .len false (.t 16), (some (12, true)), []⟩, ⟨(some 18), 20, .bin .sub (.c (.i .i64 1000000000000)) (.t 17), (some (12, true)), []⟩, ⟨(some 19), 21, .bin .leq (.t 14) (.t 18), (some (12, true)), []⟩, ⟨(some 20), 22, .pick (.t 12) (.t 19) (.c (.b false)), none, []⟩])
  (.cond (.t 20)
  (.ops [⟨(some 21), 23, .faddr 0 1 (.t 1), none, []⟩, ⟨(some 22), 24, .load false 1 (.t 21), none, []⟩, ⟨(some 23), 25, .faddr 1 1 (.t 1), none, []⟩, ⟨(some 24), 26, .load false 1 (.t 23), none, []⟩, ⟨(some 25), 27, .len false (.t 24), none, []⟩, ⟨(some 26), 28, .bin .add (.t 22) (.t 25), none, []⟩, ⟨(some 27), 29, .faddr 0 1 (.t 3), none, []⟩, ⟨none, 1003007, .store 1 (.t 27) (.t 26), none, []⟩])
  .skip))
  (.seq (.ops [⟨(some 28), 30, .load true 3 (.t 3), none, []⟩, ⟨none, 1004001, .store 3 (.t 2) (.t 28), none, []⟩])
  .ret))))
theorem k20 : compCode Try.prog Try.f20.ntmps Try.f20.body.get! = some c20 := by kernel_rfl
theorem r20 : resTmps Try.prog Try.f20.results.toList = some [.cell 2 true 3] := by kernel_rfl
/- impl.Turn -/
def c21 : TCode := (.seq (.ops [⟨(some 1), 3, .box 3 (.t 0), none, []⟩, ⟨(some 2), 4, .box 3 (.c (.ag [(.i .i64 0), (.sl true 4 []), (.sl true 4 [])])), none, []⟩])
  (.seq (.ops [⟨(some 4), 6, .faddr 2 1 (.t 1), none, []⟩, ⟨(some 5), 7, .load false 1 (.t 4), none, []⟩, ⟨(some 6), 8, .call 76 [((.t 5), 0)], none, []⟩, ⟨(some 7), 9, .build [(.i .i64 0), (.sl true 4 []), (.sl true 4 [])] [(1, 1, (.t 6))], none, []⟩, ⟨(some 3), 5, .box 3 (.c (.ag [(.i .i64 0), (.sl true 4 []), (.sl true 4 [])])), none, []⟩, ⟨none, 1001005, .store 3 (.t 3) (.t 7), none, []⟩])
  (.seq (.seq (.ops [⟨(some 8), 10, .faddr 0 1 (.t 1), none, []⟩, ⟨(some 9), 11, .load false 1 (.t 8), none, []⟩, ⟨(some 10), 12, .bin .geq (.t 9) (.c (.i .i64 0)), none, []⟩, ⟨(some 11), 13, .mv (.t 10), none, []⟩, ⟨(some 12), 14, .faddr 0 1 (.t 1), (some (11, true)), []⟩, ⟨(some 13), 15, .load false 1 (.t 12), (some (11, true)), []⟩, ⟨(some 14), 16, .bin .leq (.t 13) (.c (.i .i64 1000000000000)), (some (11, true)), []⟩, ⟨(some 15), 17, .pick (.t 11) (.t 14) (.c (.b false)), none, []⟩, ⟨(some 16), 18, .mv (.t 15), none, []⟩, ⟨(some 17), 19, .faddr 0 1 (.t 1), (some (16, true)), []⟩, ⟨(some 18), 20, .load false 1 (.t 17), (some (16, true)), []⟩, ⟨(some 19), 21, .faddr 1 1 (.t 1), (some (16, true)), []⟩, ⟨(some 20), 22, .load false 1 (.t 19), (some (16, true)), []⟩, ⟨(some 21), 23, .len false (.t 20), (some (16, true)), []⟩, ⟨(some 22), 24, .bin .add (.t 18) (.t 21), (some (16, true)), []⟩, ⟨(some 23), 25, .bin .leq (.t 22) (.c (.i .i64 1000000000000)), (some (16, true)), []⟩, ⟨(some 24), 26, .pick (.t 16) (.t 23) (.c (.b false)), none, []⟩])
  (.cond (.t 24)
  (.ops [⟨(some 25), 27, .faddr 0 1 (.t 1), none, []⟩, ⟨(some 26), 28, .load false 1 (.t 25), none, []⟩, ⟨(some 27), 29, .faddr 1 1 (.t 1), none, []⟩, ⟨(some 28), 30, .load false 1 (.t 27), none, []⟩, ⟨(some 29), 31, .len false (.t 28), none, []⟩, ⟨(some 30), 32, .bin .add (.t 26) (.t 29), none, []⟩, ⟨(some 31), 33, .faddr 0 1 (.t 3), none, []⟩, ⟨none, 1003007, .store 1 (.t 31) (.t 30), none, []⟩])
  .skip))
  (.seq (.ops [⟨(some 32), 34, .load true 3 (.t 3), none, []⟩, ⟨none, 1004001, .store 3 (.t 2) (.t 32), none, []⟩])
  .ret))))
theorem k21 : compCode Try.prog Try.f21.ntmps Try.f21.body.get! = some c21 := by kernel_rfl
theorem r21 : resTmps Try.prog Try.f21.results.toList = some [.cell 2 true 3] := by kernel_rfl
/- laws.FnExactTurn -/
def c4 : TCode := (.seq (.ops [⟨(some 1), 3, .box 3 (.t 0), none, []⟩, ⟨(some 2), 4, .mv (.c (.b false)), none, []⟩])
  (.seq (.ops [⟨(some 3), 5, .mv (.c (.i .i64 1048576)), none, []⟩])
  (.seq (.ops [⟨(some 11), 13, .load true 3 (.t 1), none, []⟩, ⟨(some 12), 14, .mv (.t 3), none, []⟩, ⟨(some 13), 15, .call 15 [((.t 11), 0), ((.t 12), 0)], none, []⟩, ⟨(some 3), 5, .mv (.t 13), none, []⟩])
  (.seq (.seq (.ops [⟨(some 14), 16, .mv (.t 3), none, []⟩, ⟨(some 15), 17, .bin .lss (.t 14) (.c (.i .i64 0)), none, []⟩])
  (.cond (.t 15)
  (.seq (.ops [⟨(some 2), 4, .mv (.c (.b true)), none, []⟩])
  .ret)
  .skip))
  (.seq (.ops [⟨(some 16), 18, .load true 3 (.t 1), none, []⟩, ⟨(some 17), 19, .call 17 [((.t 16), 0)], none, []⟩, ⟨(some 18), 20, .call 20 [((.t 17), 0)], none, []⟩, ⟨(some 4), 6, .box 3 (.c (.ag [(.i .i64 0), (.sl true 4 []), (.sl true 4 [])])), none, []⟩, ⟨none, 1005004, .store 3 (.t 4) (.t 18), none, []⟩])
  (.seq (.ops [⟨(some 19), 21, .load true 3 (.t 1), none, []⟩, ⟨(some 20), 22, .call 17 [((.t 19), 0)], none, []⟩, ⟨(some 5), 7, .box 3 (.c (.ag [(.i .i64 0), (.sl true 4 []), (.sl true 4 [])])), none, []⟩, ⟨none, 1006003, .store 3 (.t 5) (.t 20), none, []⟩])
  (.seq (.ops [⟨(some 21), 23, .load true 3 (.t 5), none, []⟩, ⟨(some 22), 24, .call 21 [((.t 21), 0)], none, []⟩, ⟨(some 6), 8, .box 3 (.c (.ag [(.i .i64 0), (.sl true 4 []), (.sl true 4 [])])), none, []⟩, ⟨none, 1007003, .store 3 (.t 6) (.t 22), none, []⟩])
  (.seq (.seq (.ops [⟨(some 23), 25, .load true 3 (.t 6), none, []⟩, ⟨(some 24), 26, .load true 3 (.t 4), none, []⟩, ⟨(some 25), 27, .call 19 [((.t 23), 0), ((.t 24), 0)], none, []⟩, ⟨(some 26), 28, .un .not (.t 25), none, []⟩])
  (.cond (.t 26)
  (.seq (.ops [⟨(some 2), 4, .mv (.c (.b false)), none, []⟩])
  .ret)
  .skip))
  (.seq (.seq (.draw [⟨(some 27), 29, .load true 3 (.t 5), none, []⟩, ⟨(some 28), 30, .load true 3 (.t 1), none, []⟩, ⟨(some 29), 31, .call 17 [((.t 28), 0)], none, [0]⟩, ⟨(some 30), 32, .call 19 [((.t 27), 0), ((.t 29), 0)], none, []⟩, ⟨(some 31), 33, .un .not (.t 30), none, []⟩])
  (.cond (.t 31)
  (.seq (.ops [⟨(some 2), 4, .mv (.c (.b false)), none, []⟩])
  .ret)
  .skip))
  (.seq (.ops [⟨(some 7), 9, .mv (.c (.i .i64 1)), none, []⟩])
  (.seq (.ops [⟨(some 32), 34, .load true 3 (.t 5), none, []⟩, ⟨(some 33), 35, .mv (.t 7), none, []⟩, ⟨(some 34), 36, .call 22 [((.t 32), 0), ((.t 33), 0)], none, []⟩, ⟨(some 7), 9, .mv (.t 34), none, []⟩])
  (.seq (.seq (.ops [⟨(some 35), 37, .mv (.t 7), none, []⟩, ⟨(some 36), 38, .bin .lss (.t 35) (.c (.i .i64 0)), none, []⟩, ⟨(some 37), 39, .mv (.t 36), none, []⟩, ⟨(some 38), 40, .load true 3 (.t 6), (some (37, false)), []⟩, ⟨(some 39), 41, .load true 3 (.t 4), (some (37, false)), []⟩, ⟨(some 40), 42, .call 19 [((.t 38), 0), ((.t 39), 0)], (some (37, false)), []⟩, ⟨(some 41), 43, .un .not (.t 40), (some (37, false)), []⟩, ⟨(some 42), 44, .pick (.t 37) (.c (.b true)) (.t 41), none, []⟩])
  (.cond (.t 42)
  (.seq (.ops [⟨(some 2), 4, .mv (.c (.b false)), none, []⟩])
  .ret)
  .skip))
  (.seq (.ops [⟨(some 8), 10, .mv (.c (.i .i64 1)), none, []⟩])
  (.seq (.ops [⟨(some 43), 45, .load true 3 (.t 6), none, []⟩, ⟨(some 44), 46, .mv (.t 8), none, []⟩, ⟨(some 45), 47, .call 22 [((.t 43), 0), ((.t 44), 0)], none, []⟩, ⟨(some 8), 10, .mv (.t 45), none, []⟩])
  (.seq (.ops [⟨(some 9), 11, .mv (.c (.i .i64 1)), none, []⟩])
  (.seq (.ops [⟨(some 46), 48, .load true 3 (.t 6), none, []⟩, ⟨(some 47), 49, .mv (.t 9), none, []⟩, ⟨(some 48), 50, .call 23 [((.t 46), 0), ((.t 47), 0)], none, []⟩, ⟨(some 9), 11, .mv (.t 48), none, []⟩])
  (.seq (.seq (.ops [⟨(some 49), 51, .mv (.t 9), none, []⟩, ⟨(some 50), 52, .bin .lss (.t 49) (.c (.i .i64 0)), none, []⟩])
  (.cond (.t 50)
  (.seq (.ops [⟨(some 2), 4, .mv (.c (.b false)), none, []⟩])
  .ret)
  .skip))
  (.seq (.seq (.ops [⟨(some 51), 53, .mv (.t 9), none, []⟩, ⟨(some 52), 54, .mv (.t 8), none, []⟩, ⟨(some 53), 55, .bin .neq (.t 51) (.t 52), none, []⟩])
  (.cond (.t 53)
  (.seq (.ops [⟨(some 2), 4, .mv (.c (.b false)), none, []⟩])
  .ret)
  .skip))
  (.seq (.ops [⟨(some 54), 56, .load true 3 (.t 1), none, []⟩, ⟨(some 55), 57, .call 17 [((.t 54), 0)], none, []⟩, ⟨(some 56), 58, .call 21 [((.t 55), 0)], none, []⟩, ⟨(some 10), 12, .box 3 (.c (.ag [(.i .i64 0), (.sl true 4 []), (.sl true 4 [])])), none, []⟩, ⟨none, 1024004, .store 3 (.t 10) (.t 56), none, []⟩])
  (.seq (.seq (.ops [⟨(some 57), 59, .load true 3 (.t 10), none, []⟩, ⟨(some 58), 60, .load true 3 (.t 4), none, []⟩, ⟨(some 59), 61, .call 19 [((.t 57), 0), ((.t 58), 0)], none, []⟩, ⟨(some 60), 62, .un .not (.t 59), none, []⟩])
  (.cond (.t 60)
  (.seq (.ops [⟨(some 2), 4, .mv (.c (.b false)), none, []⟩])
  .ret)
  .skip))
  (.seq (.ops [⟨(some 9), 11, .mv (.c (.i .i64 1)), none, []⟩])
  (.seq (.ops [⟨(some 61), 63, .load true 3 (.t 6), none, []⟩, ⟨(some 62), 64, .mv (.t 9), none, []⟩, ⟨(some 63), 65, .call 23 [((.t 61), 0), ((.t 62), 0)], none, []⟩, ⟨(some 9), 11, .mv (.t 63), none, []⟩])
  (.seq (.seq (.ops [⟨(some 64), 66, .mv (.t 9), none, []⟩, ⟨(some 65), 67, .bin .lss (.t 64) (.c (.i .i64 0)), none, []⟩])
  (.cond (.t 65)
  (.seq (.ops [⟨(some 2), 4, .mv (.c (.b false)), none, []⟩])
  .ret)
  .skip))
  (.seq (.seq (.ops [⟨(some 66), 68, .mv (.t 9), none, []⟩, ⟨(some 67), 69, .mv (.t 8), none, []⟩, ⟨(some 68), 70, .bin .neq (.t 66) (.t 67), none, []⟩])
  (.cond (.t 68)
  (.seq (.ops [⟨(some 2), 4, .mv (.c (.b false)), none, []⟩])
  .ret)
  .skip))
  (.seq (.ops [⟨(some 2), 4, .mv (.c (.b true)), none, []⟩])
  .ret)))))))))))))))))))))))))
theorem k4 : compCode Try.prog Try.f4.ntmps Try.f4.body.get! = some c4 := by kernel_rfl
theorem r4 : resTmps Try.prog Try.f4.results.toList = some [.tmp 2] := by kernel_rfl
/- spec.Send -/
def c29 : TCode := (.seq (.ops [⟨(some 4), 6, .box 3 (.t 1), none, []⟩, ⟨(some 5), 7, .box 4 (.t 2), none, []⟩, ⟨(some 6), 8, .box 3 (.c (.ag [(.i .i64 0), (.sl true 4 []), (.sl true 4 [])])), none, []⟩, ⟨(some 7), 9, .mv (.c (.b false)), none, []⟩])
  (.seq (.ops [⟨(some 9), 11, .load true 3 (.t 4), none, []⟩, ⟨(some 10), 12, .call 78 [((.t 9), 0)], none, []⟩, ⟨(some 8), 10, .box 3 (.c (.ag [(.i .i64 0), (.sl true 4 []), (.sl true 4 [])])), none, []⟩, ⟨none, 1001003, .store 3 (.t 8) (.t 10), none, []⟩])
  (.seq (.seq (.ops [⟨(some 11), 13, .mv (.t 0), none, []⟩, ⟨(some 12), 14, .load true 3 (.t 4), none, []⟩, ⟨(some 13), 15, .call 16 [((.t 11), 0), ((.t 12), 0)], none, []⟩, ⟨(some 14), 16, .un .not (.t 13), none, []⟩, ⟨(some 15), 17, .mv (.t 14), none, []⟩, ⟨(some 16), 18, .load true 4 (.t 5), (some (15, false)), []⟩, ⟨(some 17), 19, .call 79 [((.t 16), 0)], (some (15, false)), []⟩, ⟨(some 18), 20, .un .not (.t 17), (some (15, false)), []⟩, ⟨(some 19), 21, .pick (.t 15) (.c (.b true)) (.t 18), none, []⟩, ⟨(some 20), 22, .mv (.t 19), none, []⟩, ⟨(some 21), 23, .faddr 0 1 (.t 5), (some (20, false)), []⟩, ⟨(some 22), 24, .load false 1 (.t 21), (some (20, false)), []⟩, ⟨(some 23), 25, .mv (.t 0), (some (20, false)), []⟩, ⟨(some 24), 26, .bin .neq (.t 22) (.t 23), (some (20, false)), []⟩, ⟨(some 25), 27, .pick (.t 20) (.c (.b true)) (.t 24), none, []⟩, ⟨(some 26), 28, .mv (.t 25), none, []⟩, ⟨(some 27), 29, .faddr 2 1 (.t 4), (some (26, false)), []⟩, ⟨(some 28), 30, .load false 1 (.t 27), (some (26, false)), []⟩, ⟨(some 29), 31, .len false (.t 28), (some (26, false)), []⟩, ⟨(some 30), 32, .bin .geq (.t 29) (.c (.i .i64 200)), (some (26, false)), []⟩, ⟨(some 31), 33, .pick (.t 26) (.c (.b true)) (.t 30), none, []⟩])
  (.cond (.t 31)
  (.seq (.ops [⟨(some 32), 34, .load true 3 (.t 8), none, []⟩, ⟨none, 1003001, .store 3 (.t 6) (.t 32), none, []⟩, ⟨(some 7), 9, .mv (.c (.b false)), none, []⟩])
  .ret)
  .skip))
  (.seq (.ops [⟨(some 33), 35, .faddr 2 1 (.t 8), none, []⟩, ⟨(some 34), 36, .load false 1 (.t 33), none, []⟩, ⟨(some 35), 37, .load true 4 (.t 5), none, []⟩, ⟨(some 36), 38, .bslice 4 1 [(.i .i64 0), (.i .i64 0), (.f 0), (.f 0)] [(0, (.t 35))], none, []⟩, ⟨(some 37), 39, .app 4 32 (.t 34) (.t 36), none, []⟩, ⟨(some 38), 40, .faddr 2 1 (.t 8), none, []⟩, ⟨none, 1004006, .store 1 (.t 38) (.t 37), none, []⟩])
  (.seq (.ops [⟨(some 39), 41, .load true 3 (.t 8), none, []⟩, ⟨none, 1005001, .store 3 (.t 6) (.t 39), none, []⟩, ⟨(some 7), 9, .mv (.c (.b true)), none, []⟩])
  .ret)))))
theorem k29 : compCode Try.prog Try.f29.ntmps Try.f29.body.get! = some c29 := by kernel_rfl
theorem r29 : resTmps Try.prog Try.f29.results.toList = some [.cell 6 true 3, .tmp 7] := by kernel_rfl
/- impl.Send -/
def c31 : TCode := (.seq (.ops [⟨(some 4), 6, .box 3 (.t 1), none, []⟩, ⟨(some 5), 7, .box 4 (.t 2), none, []⟩, ⟨(some 6), 8, .box 3 (.c (.ag [(.i .i64 0), (.sl true 4 []), (.sl true 4 [])])), none, []⟩, ⟨(some 7), 9, .mv (.c (.b false)), none, []⟩])
  (.seq (.ops [⟨(some 9), 11, .load true 3 (.t 4), none, []⟩, ⟨(some 10), 12, .call 80 [((.t 9), 0)], none, []⟩, ⟨(some 8), 10, .box 3 (.c (.ag [(.i .i64 0), (.sl true 4 []), (.sl true 4 [])])), none, []⟩, ⟨none, 1001003, .store 3 (.t 8) (.t 10), none, []⟩])
  (.seq (.seq (.ops [⟨(some 11), 13, .mv (.t 0), none, []⟩, ⟨(some 12), 14, .load true 3 (.t 4), none, []⟩, ⟨(some 13), 15, .call 18 [((.t 11), 0), ((.t 12), 0)], none, []⟩, ⟨(some 14), 16, .un .not (.t 13), none, []⟩, ⟨(some 15), 17, .mv (.t 14), none, []⟩, ⟨(some 16), 18, .load true 4 (.t 5), (some (15, false)), []⟩, ⟨(some 17), 19, .mv (.t 0), (some (15, false)), []⟩, ⟨(some 18), 20, .call 81 [((.t 16), 0), ((.t 17), 0)], (some (15, false)), []⟩, ⟨(some 19), 21, .un .not (.t 18), (some (15, false)), []⟩, ⟨(some 20), 22, .pick (.t 15) (.c (.b true)) (.t 19), none, []⟩, ⟨(some 21), 23, .mv (.t 20), none, []⟩, ⟨(some 22), 24, .faddr 2 1 (.t 4), (some (21, false)), []⟩, ⟨(some 23), 25, .load false 1 (.t 22), (some (21, false)), []⟩, ⟨(some 24), 26, .len false (.t 23), (some (21, false)), []⟩, ⟨(some 25), 27, .bin .eql (.t 24) (.c (.i .i64 200)), (some (21, false)), []⟩, ⟨(some 26), 28, .pick (.t 21) (.c (.b true)) (.t 25), none, []⟩])
  (.cond (.t 26)
  (.seq (.ops [⟨(some 27), 29, .load true 3 (.t 8), none, []⟩, ⟨none, 1003001, .store 3 (.t 6) (.t 27), none, []⟩, ⟨(some 7), 9, .mv (.c (.b false)), none, []⟩])
  .ret)
  .skip))
  (.seq (.ops [⟨(some 28), 30, .faddr 2 1 (.t 8), none, []⟩, ⟨(some 29), 31, .load false 1 (.t 28), none, []⟩, ⟨(some 30), 32, .load true 4 (.t 5), none, []⟩, ⟨(some 31), 33, .bslice 4 1 [(.i .i64 0), (.i .i64 0), (.f 0), (.f 0)] [(0, (.t 30))], none, []⟩, ⟨(some 32), 34, .app 4 32 (.t 29) (.t 31), none, []⟩, ⟨(some 33), 35, .faddr 2 1 (.t 8), none, []⟩, ⟨none, 1004006, .store 1 (.t 33) (.t 32), none, []⟩])
  (.seq (.ops [⟨(some 34), 36, .load true 3 (.t 8), none, []⟩, ⟨none, 1005001, .store 3 (.t 6) (.t 34), none, []⟩, ⟨(some 7), 9, .mv (.c (.b true)), none, []⟩])
  .ret)))))
theorem k31 : compCode Try.prog Try.f31.ntmps Try.f31.body.get! = some c31 := by kernel_rfl
theorem r31 : resTmps Try.prog Try.f31.results.toList = some [.cell 6 true 3, .tmp 7] := by kernel_rfl
/- laws.FnExactSend -/
def c6 : TCode := (.seq (.ops [⟨(some 4), 6, .box 3 (.t 1), none, []⟩, ⟨(some 5), 7, .box 4 (.t 2), none, []⟩, ⟨(some 6), 8, .mv (.c (.b false)), none, []⟩])
  (.seq (.ops [⟨(some 7), 9, .mv (.c (.i .i64 1048576)), none, []⟩])
  (.seq (.ops [⟨(some 18), 20, .load true 3 (.t 4), none, []⟩, ⟨(some 19), 21, .mv (.t 7), none, []⟩, ⟨(some 20), 22, .call 15 [((.t 18), 0), ((.t 19), 0)], none, []⟩, ⟨(some 7), 9, .mv (.t 20), none, []⟩])
  (.seq (.seq (.ops [⟨(some 21), 23, .mv (.t 7), none, []⟩, ⟨(some 22), 24, .bin .lss (.t 21) (.c (.i .i64 0)), none, []⟩])
  (.cond (.t 22)
  (.seq (.ops [⟨(some 6), 8, .mv (.c (.b true)), none, []⟩])
  .ret)
  .skip))
  (.seq (.draw [⟨(some 24), 26, .mv (.t 0), none, []⟩, ⟨(some 25), 27, .load true 3 (.t 4), none, []⟩, ⟨(some 26), 28, .call 17 [((.t 25), 0)], none, [0]⟩, ⟨(some 27), 29, .load true 4 (.t 5), none, [2]⟩, ⟨(some 28), 30, .call 30 [((.t 27), 0)], none, [0]⟩, ⟨(some 29), 31, .call 29 [((.t 24), 0), ((.t 26), 0), ((.t 28), 0)], none, []⟩, ⟨(some 23), 25, .mv (.t 29), none, []⟩, ⟨(some 30), 32, .ext 0 (.t 23), none, []⟩, ⟨(some 31), 33, .ext 1 (.t 23), none, []⟩, ⟨(some 8), 10, .box 3 (.c (.ag [(.i .i64 0), (.sl true 4 []), (.sl true 4 [])])), none, [0, 1, 2, 3, 4, 5, 6, 7, 8]⟩, ⟨none, 1005010, .store 3 (.t 8) (.t 30), none, [1000000, 8]⟩, ⟨(some 9), 11, .mv (.t 31), none, []⟩])
  (.seq (.ops [⟨(some 32), 34, .load true 3 (.t 4), none, []⟩, ⟨(some 33), 35, .call 17 [((.t 32), 0)], none, []⟩, ⟨(some 10), 12, .box 3 (.c (.ag [(.i .i64 0), (.sl true 4 []), (.sl true 4 [])])), none, []⟩, ⟨none, 1006003, .store 3 (.t 10) (.t 33), none, []⟩])
  (.seq (.draw [⟨(some 35), 37, .mv (.t 0), none, []⟩, ⟨(some 36), 38, .load true 3 (.t 10), none, []⟩, ⟨(some 37), 39, .load true 4 (.t 5), none, []⟩, ⟨(some 38), 40, .call 30 [((.t 37), 0)], none, [0, 1]⟩, ⟨(some 39), 41, .call 31 [((.t 35), 0), ((.t 36), 0), ((.t 38), 0)], none, []⟩, ⟨(some 34), 36, .mv (.t 39), none, []⟩, ⟨(some 40), 42, .ext 0 (.t 34), none, []⟩, ⟨(some 41), 43, .ext 1 (.t 34), none, []⟩, ⟨(some 11), 13, .box 3 (.c (.ag [(.i .i64 0), (.sl true 4 []), (.sl true 4 [])])), none, [0, 1, 2, 3, 4, 5, 6, 7]⟩, ⟨none, 1007009, .store 3 (.t 11) (.t 40), none, [1000000, 7]⟩, ⟨(some 12), 14, .mv (.t 41), none, []⟩])
  (.seq (.seq (.ops [⟨(some 42), 44, .load true 3 (.t 11), none, []⟩, ⟨(some 43), 45, .load true 3 (.t 8), none, []⟩, ⟨(some 44), 46, .call 19 [((.t 42), 0), ((.t 43), 0)], none, []⟩, ⟨(some 45), 47, .un .not (.t 44), none, []⟩, ⟨(some 46), 48, .mv (.t 45), none, []⟩, ⟨(some 47), 49, .mv (.t 12), (some (46, false)), []⟩, ⟨(some 48), 50, .mv (.t 9), (some (46, false)), []⟩, ⟨(some 49), 51, .eqs true false [.b] (.t 47) (.t 48), (some (46, false)), []⟩, ⟨(some 50), 52, .pick (.t 46) (.c (.b true)) (.t 49), none, []⟩])
  (.cond (.t 50)
  (.seq (.ops [⟨(some 6), 8, .mv (.c (.b false)), none, []⟩])
  .ret)
  .skip))
  (.seq (.seq (.draw [⟨(some 51), 53, .load true 3 (.t 10), none, []⟩, ⟨(some 52), 54, .load true 3 (.t 4), none, []⟩, ⟨(some 53), 55, .call 17 [((.t 52), 0)], none, [0]⟩, ⟨(some 54), 56, .call 19 [((.t 51), 0), ((.t 53), 0)], none, []⟩, ⟨(some 55), 57, .un .not (.t 54), none, []⟩])
  (.cond (.t 55)
  (.seq (.ops [⟨(some 6), 8, .mv (.c (.b false)), none, []⟩])
  .ret)
  .skip))
  (.seq (.ops [⟨(some 13), 15, .mv (.c (.i .i64 1)), none, []⟩])
  (.seq (.ops [⟨(some 56), 58, .load true 3 (.t 10), none, []⟩, ⟨(some 57), 59, .mv (.t 13), none, []⟩, ⟨(some 58), 60, .call 22 [((.t 56), 0), ((.t 57), 0)], none, []⟩, ⟨(some 13), 15, .mv (.t 58), none, []⟩])
  (.seq (.seq (.ops [⟨(some 59), 61, .mv (.t 13), none, []⟩, ⟨(some 60), 62, .bin .lss (.t 59) (.c (.i .i64 0)), none, []⟩, ⟨(some 61), 63, .mv (.t 60), none, []⟩, ⟨(some 62), 64, .load true 3 (.t 11), (some (61, false)), []⟩, ⟨(some 63), 65, .load true 3 (.t 8), (some (61, false)), []⟩, ⟨(some 64), 66, .call 19 [((.t 62), 0), ((.t 63), 0)], (some (61, false)), []⟩, ⟨(some 65), 67, .un .not (.t 64), (some (61, false)), []⟩, ⟨(some 66), 68, .pick (.t 61) (.c (.b true)) (.t 65), none, []⟩, ⟨(some 67), 69, .mv (.t 66), none, []⟩, ⟨(some 68), 70, .mv (.t 12), (some (67, false)), []⟩, ⟨(some 69), 71, .mv (.t 9), (some (67, false)), []⟩, ⟨(some 70), 72, .eqs true false [.b] (.t 68) (.t 69), (some (67, false)), []⟩, ⟨(some 71), 73, .pick (.t 67) (.c (.b true)) (.t 70), none, []⟩])
  (.cond (.t 71)
  (.seq (.ops [⟨(some 6), 8, .mv (.c (.b false)), none, []⟩])
  .ret)
  .skip))
  (.seq (.ops [⟨(some 14), 16, .mv (.c (.i .i64 1)), none, []⟩])
  (.seq (.ops [⟨(some 72), 74, .load true 3 (.t 11), none, []⟩, ⟨(some 73), 75, .mv (.t 14), none, []⟩, ⟨(some 74), 76, .call 22 [((.t 72), 0), ((.t 73), 0)], none, []⟩, ⟨(some 14), 16, .mv (.t 74), none, []⟩])
  (.seq (.ops [⟨(some 15), 17, .mv (.c (.i .i64 1)), none, []⟩])
  (.seq (.ops [⟨(some 75), 77, .load true 3 (.t 11), none, []⟩, ⟨(some 76), 78, .mv (.t 15), none, []⟩, ⟨(some 77), 79, .call 23 [((.t 75), 0), ((.t 76), 0)], none, []⟩, ⟨(some 15), 17, .mv (.t 77), none, []⟩])
  (.seq (.seq (.ops [⟨(some 78), 80, .mv (.t 15), none, []⟩, ⟨(some 79), 81, .bin .lss (.t 78) (.c (.i .i64 0)), none, []⟩])
  (.cond (.t 79)
  (.seq (.ops [⟨(some 6), 8, .mv (.c (.b false)), none, []⟩])
  .ret)
  .skip))
  (.seq (.seq (.ops [⟨(some 80), 82, .mv (.t 15), none, []⟩, ⟨(some 81), 83, .mv (.t 14), none, []⟩, ⟨(some 82), 84, .bin .neq (.t 80) (.t 81), none, []⟩])
  (.cond (.t 82)
  (.seq (.ops [⟨(some 6), 8, .mv (.c (.b false)), none, []⟩])
  .ret)
  .skip))
  (.seq (.draw [⟨(some 84), 86, .mv (.t 0), none, []⟩, ⟨(some 85), 87, .load true 3 (.t 4), none, []⟩, ⟨(some 86), 88, .call 17 [((.t 85), 0)], none, [0]⟩, ⟨(some 87), 89, .load true 4 (.t 5), none, [2]⟩, ⟨(some 88), 90, .call 30 [((.t 87), 0)], none, [0]⟩, ⟨(some 89), 91, .call 31 [((.t 84), 0), ((.t 86), 0), ((.t 88), 0)], none, []⟩, ⟨(some 83), 85, .mv (.t 89), none, []⟩, ⟨(some 90), 92, .ext 0 (.t 83), none, []⟩, ⟨(some 91), 93, .ext 1 (.t 83), none, []⟩, ⟨(some 16), 18, .box 3 (.c (.ag [(.i .i64 0), (.sl true 4 []), (.sl true 4 [])])), none, [0, 1, 2, 3, 4, 5, 6, 7, 8]⟩, ⟨none, 1024010, .store 3 (.t 16) (.t 90), none, [1000000, 8]⟩, ⟨(some 17), 19, .mv (.t 91), none, []⟩])
  (.seq (.seq (.ops [⟨(some 92), 94, .load true 3 (.t 16), none, []⟩, ⟨(some 93), 95, .load true 3 (.t 8), none, []⟩, ⟨(some 94), 96, .call 19 [((.t 92), 0), ((.t 93), 0)], none, []⟩, ⟨(some 95), 97, .un .not (.t 94), none, []⟩, ⟨(some 96), 98, .mv (.t 95), none, []⟩, ⟨(some 97), 99, .mv (.t 17), (some (96, false)), []⟩, ⟨(some 98), 100, .mv (.t 9), (some (96, false)), []⟩, ⟨(some 99), 101, .eqs true false [.b] (.t 97) (.t 98), (some (96, false)), []⟩, ⟨(some 100), 102, .pick (.t 96) (.c (.b true)) (.t 99), none, []⟩])
  (.cond (.t 100)
  (.seq (.ops [⟨(some 6), 8, .mv (.c (.b false)), none, []⟩])
  .ret)
  .skip))
  (.seq (.ops [⟨(some 15), 17, .mv (.c (.i .i64 1)), none, []⟩])
  (.seq (.ops [⟨(some 101), 103, .load true 3 (.t 11), none, []⟩, ⟨(some 102), 104, .mv (.t 15), none, []⟩, ⟨(some 103), 105, .call 23 [((.t 101), 0), ((.t 102), 0)], none, []⟩, ⟨(some 15), 17, .mv (.t 103), none, []⟩])
  (.seq (.seq (.ops [⟨(some 104), 106, .mv (.t 15), none, []⟩, ⟨(some 105), 107, .bin .lss (.t 104) (.c (.i .i64 0)), none, []⟩])
  (.cond (.t 105)
  (.seq (.ops [⟨(some 6), 8, .mv (.c (.b false)), none, []⟩])
  .ret)
  .skip))
  (.seq (.seq (.ops [⟨(some 106), 108, .mv (.t 15), none, []⟩, ⟨(some 107), 109, .mv (.t 14), none, []⟩, ⟨(some 108), 110, .bin .neq (.t 106) (.t 107), none, []⟩])
  (.cond (.t 108)
  (.seq (.ops [⟨(some 6), 8, .mv (.c (.b false)), none, []⟩])
  .ret)
  .skip))
  (.seq (.ops [⟨(some 6), 8, .mv (.c (.b true)), none, []⟩])
  .ret)))))))))))))))))))))))))
theorem k6 : compCode Try.prog Try.f6.ntmps Try.f6.body.get! = some c6 := by kernel_rfl
theorem r6 : resTmps Try.prog Try.f6.results.toList = some [.tmp 6] := by kernel_rfl

/-- A stream: first, old, new. -/
abbrev StrP := Int × List ValP × List ValP
def strR (s : StrP) : TV := .ag [.i .i64 s.1, .sl false 4 (s.2.1.map vT), .sl false 4 (s.2.2.map vT)]
def strO (s : StrP) : TV := .ag [.i .i64 s.1, .sl true 4 (s.2.1.map vT), .sl true 4 (s.2.2.map vT)]
def strB (k : Nat) (s : StrP) : Prop := s.2.1.length ≤ k ∧ s.2.2.length ≤ k
def valsF (l : List ValP) : Prop := ∀ v ∈ l, valOkF v
def szStrF (s : StrP) (n : Int) : Int := if szF n s.2.1.length < 0 then -1 else szF (szF n s.2.1.length) s.2.2.length
theorem szStr_ok {s : StrP} {n : Int} {k : Nat} (h0 : 0 ≤ n) (hk : n ≤ k) (h : ¬ szStrF s n < 0) : 0 ≤ szStrF s n ∧ szStrF s n ≤ n ∧ strB k s := by
  unfold szStrF at h ⊢
  split at h
  · omega
  · rename_i h1
    rw [if_neg h1]
    obtain ⟨a1, a2⟩ := szF_pos (by omega : 0 ≤ szF n s.2.1.length)
    obtain ⟨b1, b2⟩ := szF_pos (by omega : 0 ≤ szF (szF n s.2.1.length) s.2.2.length)
    exact ⟨by omega, by omega, by omega, by omega⟩
theorem w15 (s : StrP) (n : Int) (hb : strB 9223372036854775807 s) (hn : n < 2^62) (hn0 : 0 ≤ n) : Contract Try.prog false 15 [.ro, .ro] [strR s, .i .i64 n] [.i .i64 (szStrF s n)] [] := by
  refine mk_contract [] Try.func15 (c := Try.f15.body.get!) (by kernel_rfl) k15 r15 (of_decide_eq_true rfl) fun _ => ?_
  obtain ⟨b1, b2⟩ := hb
  unfold c15; unfold strR szStrF; simp
  refine callW_ms [.ro, .ro] ?_
  simp
  refine callX_of (w70 s.2.1 n (by omega) (by omega) hn0) (by simp) ?_
  simp
  refine ⟨fun h => by intros; omega, fun h => ?_⟩
  have h1 := szF_le n s.2.1.length (by omega) hn0
  refine callW_ms [.ro, .ro] ?_
  simp
  refine callX_of (w70 s.2.2 _ (by omega) (by omega) h) (by simp) ?_
  simp
  have h2 := szF_neg (szF n s.2.1.length) s.2.2.length
  exact ⟨fun h3 _ => (h2 h3).symm, fun h3 h4 => by omega⟩
theorem w17 (s : StrP) (hb : strB (2^40) s) : Contract Try.prog false 17 [.ro] [strR s] [strO s] [] := by
  refine mk_contract [] Try.func17 (c := Try.f17.body.get!) (by kernel_rfl) k17 r17 (of_decide_eq_true rfl) fun _ => ?_
  unfold c17; unfold strR strO; simp
  refine callW_ms [.ro] ?_
  simp
  refine callX_of (w73 s.2.1 hb.1) (by simp) ?_
  simp
  refine callW_ms [.ro] ?_
  simp
  refine callX_of (w73 s.2.2 hb.2) (by simp) ?_
  simp
theorem w19 (s : StrP) (hb : strB (2^40) s) : Contract Try.prog false 19 [.ro, .ro] [strR s, strR s] [.b true] [] := by
  refine mk_contract [] Try.func19 (c := Try.f19.body.get!) (by kernel_rfl) k19 r19 (of_decide_eq_true rfl) fun _ => ?_
  unfold c19; unfold strR; simp
  refine callW_ms [.ro, .ro] ?_
  simp
  refine callX_of (w26 s.2.1 hb.1) (by simp) ?_
  simp
  refine callW_ms [.ro, .ro] ?_
  simp
  refine callX_of (w26 s.2.2 hb.2) (by simp) ?_
  simp
theorem w22 (s : StrP) (k : Int) (hb : strB (2^30) s) (hk : 0 ≤ k) (hk2 : k ≤ 2^39) : Contract Try.prog false 22 [.own, .ro] [strO s, .i .i64 k] [.i .i64 (k + 4 * s.2.1.length + 4 * s.2.2.length)] [none, some (.sl true 4 ((mkL 4 mkV k s.2.1.length).map vT)), some (.sl true 4 ((mkL 4 mkV (k + 4 * s.2.1.length) s.2.2.length).map vT))] := by
  refine mk_contract [none, some [(4, 0), (0, 1)], some [(4, 0), (0, 2)]] Try.func22 (c := Try.f22.body.get!) (by kernel_rfl) k22 r22 (of_decide_eq_true rfl) fun _ => ?_
  obtain ⟨b1, b2⟩ := hb
  unfold c22; unfold strO; simp
  refine callW_ms [.own, .ro] ?_
  simp
  refine callX_of (w27 s.2.1 k (by omega) (by omega) (by omega)) (by simp) ?_
  simp
  refine callW_ms [.own, .ro] ?_
  simp
  refine callX_of (w27 s.2.2 _ (by omega) (by omega) (by omega)) (by simp) ?_
  simp
theorem w23 (f : Int) (n m : Nat) (k : Int) (hg : n ≤ 2^30) (hf : m ≤ 2^30) (hk : 0 ≤ k) (hk2 : k ≤ 2^39) : Contract Try.prog false 23 [.ro, .ro] [strR (f, mkL 4 mkV k n, mkL 4 mkV (k + 4 * n) m), .i .i64 k] [.i .i64 (k + 4 * n + 4 * m)] [] := by
  refine mk_contract [] Try.func23 (c := Try.f23.body.get!) (by kernel_rfl) k23 r23 (of_decide_eq_true rfl) fun _ => ?_
  unfold c23; unfold strR; simp
  refine callW_ms [.ro, .ro] ?_
  simp
  refine callX_of (w28 n k (by omega) (by omega) (by omega)) (by simp) ?_
  simp
  refine ⟨by omega, fun _ => ?_⟩
  refine callW_ms [.ro, .ro] ?_
  simp
  refine callX_of (w28 m _ (by omega) (by omega) (by omega)) (by simp) ?_
  simp
  omega

def ofK (k : Int) (v : ValP) : Prop := v.1 = k ∧ ValOkP v
instance (k : Int) (v : ValP) : Decidable (ofK k v) := by unfold ofK; infer_instance
def allOf (k : Int) (l : List ValP) : Prop := (∀ v ∈ l, ofK k v) ∧ l.length ≤ 200
instance (k : Int) (l : List ValP) : Decidable (allOf k l) := by unfold allOf; infer_instance
def StrOkP (k : Int) (s : StrP) : Prop := (0 ≤ s.1 ∧ s.1 ≤ 1000000000000) ∧ allOf k s.2.1 ∧ allOf k s.2.2
instance (k : Int) (s : StrP) : Decidable (StrOkP k s) := by unfold StrOkP; infer_instance
theorem w81 (v : ValP) (k : Int) : Contract Try.prog false 81 [.ro, .ro] [valV v, .i .i64 k] [.b (decide (ofK k v))] [] := by
  refine mk_contract [] Try.func81 (c := Try.f81.body.get!) (by kernel_rfl) k81 r81 (of_decide_eq_true rfl) fun _ => ?_
  obtain ⟨v1, v2⟩ := v
  unfold c81; unfold valV; simp
  by_cases h : v1 = k
  · subst h
    simp
    refine callW_ms [.ro] ?_
    simp
    refine callX_of (w128 (v1, v2)) (by simp) ?_
    simp [ofK]
  · simp [h, ofK]
theorem allOf_take {k : Int} {l : List ValP} (h : allOf k l) (x : ValP) (hx : x ∈ l) : ofK k x := h.1 x hx
theorem w75 (l : List ValP) (k : Int) (hl : l.length ≤ 2^40) : Contract Try.prog false 75 [.ro, .ro] [.sl false 4 (l.map vT), .i .i64 k] [.b (decide (allOf k l))] [] := by
  refine mk_contract [] Try.func75 (c := Try.f75.body.get!) (by kernel_rfl) k75 r75 (of_decide_eq_true rfl) fun _ => ?_
  unfold c75; simp
  refine twp_for l.length (fun j s => s.t 0 = .sl false 4 (l.map vT) ∧ s.t 1 = .i .i64 k ∧ s.t 7 = .sl false 4 (l.map vT) ∧ s.t 8 = .i .i64 l.length ∧ s.t 9 = .i .i64 j ∧ (∀ v ∈ l.take j, ofK k v) ∧ s.H = lk [(1, [])]) [8] (by simp) ?_ ?_
  · simp
  · rintro j s hj ⟨q0, q1, q7, q8, q9, hok, qH⟩
    rw [nf_of qH]
    simp [q0, q1, q7, q8, q9]
    refine ⟨fun hlt => ?_, fun hge => ?_⟩
    · have hw : IntKind.i64.wrap (j + 1) = j + 1 := wrap_id (by omega) (by omega)
      obtain ⟨x, hx⟩ := get_some hlt
      have hxm := List.mem_of_getElem? hx
      simp [hx, hw, q0, q1, q7, q8, q9]
      by_cases h : ofK k x
      · refine callW_ms [.ro, .ro] ?_
        simp [valV]
        refine callX_of ((w81 x k).t h) (by simp) ?_
        simp [hw, q0, q1, q7, q8, q9]
        refine ⟨hlt, fun a b c d hv => ?_⟩
        rw [take_snoc hx, List.mem_append, List.mem_singleton] at hv
        rcases hv with hv | rfl
        · exact hok _ hv
        · exact h
      · refine callW_ms [.ro, .ro] ?_
        simp [valV]
        refine callX_of ((w81 x k).f h) (by simp) ?_
        simp [hw, q0, q1, q7, q8, q9]
        intro h2; exact h (h2.1 x hxm)
    · obtain rfl : j = l.length := by omega
      rw [List.take_of_length_le (Nat.le_refl _)] at hok
      have hE : allOf k l ↔ (l.length : Int) ≤ 200 := ⟨fun h => by have := h.2; omega, fun h => ⟨hok, by omega⟩⟩
      simp [hE]
theorem w72 (k : Int) (l : List ValP) (hl : l.length ≤ 2^40) (hf : valsF l) : Contract Try.prog false 72 [.ro, .ro] [.i .i64 k, .sl false 4 (l.map vT)] [.b (decide (allOf k l))] [] := by
  refine mk_contract [] Try.func72 (c := Try.f72.body.get!) (by kernel_rfl) k72 r72 (of_decide_eq_true rfl) fun _ => ?_
  unfold c72; simp
  by_cases h200 : (200 : Int) < l.length
  · have : ¬ allOf k l := fun h => by have := h.2; omega
    simp [h200, this]
    intro h; omega
  simp [h200]
  intro _
  refine twp_for l.length (fun j s => s.t 0 = .i .i64 k ∧ s.t 1 = .sl false 4 (l.map vT) ∧ s.t 5 = .i .i64 j ∧ (∀ v ∈ l.take j, ofK k v) ∧ s.H = lk [(1, [])]) [] (by simp) ?_ ?_
  · simp
  · rintro j s hj ⟨q0, q1, q5, hok, qH⟩
    rw [nf_of qH]
    simp [q0, q1, q5]
    refine ⟨fun hlt => ?_, fun hge => ?_⟩
    · have hw : IntKind.i64.wrap (j + 1) = j + 1 := wrap_id (by omega) (by omega)
      obtain ⟨x, hx⟩ := get_some hlt
      have hxm := List.mem_of_getElem? hx
      simp [hx, hw, q0, q1, q5]
      by_cases h : ValOkP x
      · refine callW_ms [.ro] ?_
        simp [valV]
        refine callX_of ((w79 x (hf x hxm)).t h) (by simp) ?_
        simp [hw, q0, q1, q5, hx]
        refine ⟨fun h3 => ⟨hlt, fun a b c d hv => ?_⟩, fun h3 h4 => h3 (h4.1 x hxm).1⟩
        rw [take_snoc hx, List.mem_append, List.mem_singleton] at hv
        rcases hv with hv | rfl
        · exact hok _ hv
        · exact ⟨h3, h⟩
      · refine callW_ms [.ro] ?_
        simp [valV]
        refine callX_of ((w79 x (hf x hxm)).f h) (by simp) ?_
        simp [hw, q0, q1, q5, hx]
        intro h2; exact h (h2.1 x hxm).2
    · obtain rfl : j = l.length := by omega
      rw [List.take_of_length_le (Nat.le_refl _)] at hok
      exact ⟨hok, by omega⟩
theorem w18 (k : Int) (s : StrP) (hb : strB (2^40) s) : Contract Try.prog false 18 [.ro, .ro] [.i .i64 k, strR s] [.b (decide (StrOkP k s))] [] := by
  refine mk_contract [] Try.func18 (c := Try.f18.body.get!) (by kernel_rfl) k18 r18 (of_decide_eq_true rfl) fun _ => ?_
  unfold c18; unfold strR; simp
  by_cases h1 : 0 ≤ s.1 ∧ s.1 ≤ 1000000000000
  · refine callW_ms [.ro, .ro, .ro] ?_
    simp
    refine callX_of ((w74 _ _ _).t h1) (by simp) ?_
    simp
    by_cases h2 : allOf k s.2.1
    · refine callW_ms [.ro, .ro] ?_
      simp
      refine callX_of ((w75 s.2.1 k hb.1).t h2) (by simp) ?_
      simp
      refine callW_ms [.ro, .ro] ?_
      simp
      refine callX_of (w75 s.2.2 k hb.2) (by simp) ?_
      simp [StrOkP, h1, h2]
    · refine callW_ms [.ro, .ro] ?_
      simp
      refine callX_of ((w75 s.2.1 k hb.1).f h2) (by simp) ?_
      simp [StrOkP, h2]
  · refine callW_ms [.ro, .ro, .ro] ?_
    simp
    refine callX_of ((w74 _ _ _).f h1) (by simp) ?_
    simp [StrOkP, h1]
theorem w16 (k : Int) (s : StrP) (hb : strB (2^40) s) (hf : valsF s.2.1) (hf2 : valsF s.2.2) : Contract Try.prog false 16 [.ro, .ro] [.i .i64 k, strR s] [.b (decide (StrOkP k s))] [] := by
  refine mk_contract [] Try.func16 (c := Try.f16.body.get!) (by kernel_rfl) k16 r16 (of_decide_eq_true rfl) fun _ => ?_
  unfold c16; unfold strR; simp
  by_cases h1 : 0 ≤ s.1 ∧ s.1 ≤ 1000000000000
  · refine callW_ms [.ro, .ro, .ro] ?_
    simp
    refine callX_of ((w71 _ _ _).t h1) (by simp) ?_
    simp
    by_cases h2 : allOf k s.2.1
    · refine callW_ms [.ro, .ro] ?_
      simp
      refine callX_of ((w72 k s.2.1 hb.1 hf).t h2) (by simp) ?_
      simp
      refine callW_ms [.ro, .ro] ?_
      simp
      refine callX_of (w72 k s.2.2 hb.2 hf2) (by simp) ?_
      simp [StrOkP, h1, h2]
    · refine callW_ms [.ro, .ro] ?_
      simp
      refine callX_of ((w72 k s.2.1 hb.1 hf).f h2) (by simp) ?_
      simp [StrOkP, h2]
  · refine callW_ms [.ro, .ro, .ro] ?_
    simp
    refine callX_of ((w71 _ _ _).f h1) (by simp) ?_
    simp [StrOkP, h1]
theorem w3 (k : Int) (s : StrP) (hb : strB 9223372036854775807 s) (hf : valsF s.2.1) (hf2 : valsF s.2.2) : Contract Try.prog false 3 [.ro, .ro] [.i .i64 k, strR s] [.b true] [] := by
  refine mk_contract [] Try.func3 (c := Try.f3.body.get!) (by kernel_rfl) k3 r3 (of_decide_eq_true rfl) fun _ => ?_
  unfold c3; unfold strR; simp
  refine callW_ms [.ro, .ro] ?_
  simp [strR]
  refine callX_of (w15 s _ hb (by omega) (by omega)) (by simp) ?_
  simp
  intro h
  obtain ⟨-, -, hk⟩ := szStr_ok (k := 2^20) (by omega) (by omega) (by omega : ¬ szStrF s 1048576 < 0)
  have hk2 : strB (2^40) s := by unfold strB at hk ⊢; omega
  refine callW_ms [.ro] ?_
  simp [strR]
  refine callX_of (w17 s hk2) (by simp) ?_
  simp [strO]
  refine callW_ms [.ro, .ro] ?_
  simp [strR]
  refine callX_of (w16 k s hk2 hf hf2) (by simp) ?_
  simp
  refine callW_ms [.ro] ?_
  simp [strR]
  refine callX_of (w17 s hk2) (by simp) ?_
  simp [strO]
  refine callW_ms [.ro, .ro] ?_
  simp [strR]
  refine callX_of (w18 k s hk2) (by simp) ?_
  simp
  refine callW_ms [.ro] ?_
  simp [strR]
  refine callX_of (w17 s hk2) (by simp) ?_
  simp [strO]
  refine callW_ms [.ro, .ro] ?_
  simp [strR]
  refine callX_of (w19 s hk2) (by simp) ?_
  simp
theorem w78 (s : StrP) (hb : strB (2^40) s) : Contract Try.prog false 78 [.ro] [strR s] [strO s] [] := by
  refine mk_contract [] Try.func78 (c := Try.f78.body.get!) (by kernel_rfl) k78 r78 (of_decide_eq_true rfl) fun _ => ?_
  obtain ⟨b1, b2⟩ := hb
  unfold c78; unfold strR strO; simp
  omega
theorem w80 (s : StrP) (hb : strB (2^40) s) : Contract Try.prog false 80 [.ro] [strR s] [strO s] [] := by
  refine mk_contract [] Try.func80 (c := Try.f80.body.get!) (by kernel_rfl) k80 r80 (of_decide_eq_true rfl) fun _ => ?_
  unfold c80; unfold strR strO; simp
  refine callW_ms [.ro] ?_
  simp
  refine callX_of (w76 s.2.1 hb.1) (by simp) ?_
  simp
  refine callW_ms [.ro] ?_
  simp
  refine callX_of (w76 s.2.2 hb.2) (by simp) ?_
  simp
def turnS (s : StrP) : StrP := (if 0 ≤ s.1 ∧ s.1 ≤ 1000000000000 - (s.2.1.length : Int) then s.1 + s.2.1.length else 0, s.2.2, [])
theorem w20 (s : StrP) (hb : strB (2^40) s) : Contract Try.prog false 20 [.ro] [strR s] [strO (turnS s)] [] := by
  refine mk_contract [] Try.func20 (c := Try.f20.body.get!) (by kernel_rfl) k20 r20 (of_decide_eq_true rfl) fun _ => ?_
  obtain ⟨b1, b2⟩ := hb
  have hw : IntKind.i64.wrap (1000000000000 - s.2.1.length) = 1000000000000 - s.2.1.length := wrap_id (by omega) (by omega)
  unfold c20; unfold strR strO turnS; simp [hw]
  refine ⟨by omega, ?_⟩
  by_cases h1 : 0 ≤ s.1
  · by_cases h2 : s.1 ≤ 1000000000000 - (s.2.1.length : Int)
    · have hw2 : IntKind.i64.wrap (s.1 + s.2.1.length) = s.1 + s.2.1.length := wrap_id (by omega) (by omega)
      simp [h1, h2, hw, hw2]
    · simp [h1, h2, hw]
  · simp [h1, hw]
theorem w21 (s : StrP) (hb : strB (2^40) s) : Contract Try.prog false 21 [.ro] [strR s] [strO (turnS s)] [] := by
  refine mk_contract [] Try.func21 (c := Try.f21.body.get!) (by kernel_rfl) k21 r21 (of_decide_eq_true rfl) fun _ => ?_
  obtain ⟨b1, b2⟩ := hb
  unfold c21; unfold strR strO turnS; simp
  refine callW_ms [.ro] ?_
  simp
  refine callX_of (w76 s.2.2 b2) (by simp) ?_
  simp
  by_cases h1 : 0 ≤ s.1
  · by_cases h2 : s.1 ≤ 1000000000000
    · have hw : IntKind.i64.wrap (s.1 + s.2.1.length) = s.1 + s.2.1.length := wrap_id (by omega) (by omega)
      by_cases h3 : s.1 + s.2.1.length ≤ 1000000000000
      · have h4 : s.1 ≤ 1000000000000 - (s.2.1.length : Int) := by omega
        simp [h1, h2, h3, h4, hw]
      · have h4 : ¬ s.1 ≤ 1000000000000 - (s.2.1.length : Int) := by omega
        simp [h1, h2, h3, h4, hw]
    · have h4 : ¬ s.1 ≤ 1000000000000 - (s.2.1.length : Int) := by omega
      simp [h1, h2, h4]
  · simp [h1]
def sendS (k : Int) (s : StrP) (v : ValP) : StrP × Bool := if StrOkP k s ∧ ofK k v ∧ s.2.2.length < 200 then ((s.1, s.2.1, s.2.2 ++ [v]), true) else (s, false)
theorem w29 (k : Int) (s : StrP) (v : ValP) (hb : strB (2^40) s) (hf : valsF s.2.1) (hf2 : valsF s.2.2) (hv : valOkF v) : Contract Try.prog false 29 [.ro, .ro, .ro] [.i .i64 k, strR s, valV v] [strO (sendS k s v).1, .b (sendS k s v).2] [] := by
  refine mk_contract [] Try.func29 (c := Try.f29.body.get!) (by kernel_rfl) k29 r29 (of_decide_eq_true rfl) fun _ => ?_
  unfold c29; unfold strR strO sendS valV; simp
  refine callW_ms [.ro] ?_
  simp [strR]
  refine callX_of (w78 s hb) (by simp) ?_
  simp [strO]
  by_cases h1 : StrOkP k s
  · refine callW_ms [.ro, .ro] ?_
    simp [strR]
    refine callX_of ((w16 k s hb hf hf2).t h1) (by simp) ?_
    simp
    by_cases h2 : ValOkP v
    · refine callW_ms [.ro] ?_
      simp [valV]
      refine callX_of ((w79 v hv).t h2) (by simp) ?_
      simp
      have h200 := h1.2.2.2
      by_cases h3 : v.1 = k
      · by_cases h4 : s.2.2.length < 200
        · have h5 : ¬ (200 : Int) ≤ s.2.2.length := by omega
          simp [h1, h2, h3, h4, h5, ofK]
          omega
        · have h5 : (200 : Int) ≤ s.2.2.length := by omega
          simp [h1, h2, h3, h4, h5, ofK]
      · simp [h3, ofK]
    · refine callW_ms [.ro] ?_
      simp [valV]
      refine callX_of ((w79 v hv).f h2) (by simp) ?_
      simp [ofK, h2]
  · refine callW_ms [.ro, .ro] ?_
    simp [strR]
    refine callX_of ((w16 k s hb hf hf2).f h1) (by simp) ?_
    simp [h1]
theorem w31 (k : Int) (s : StrP) (v : ValP) (hb : strB (2^40) s) : Contract Try.prog false 31 [.ro, .ro, .ro] [.i .i64 k, strR s, valV v] [strO (sendS k s v).1, .b (sendS k s v).2] [] := by
  refine mk_contract [] Try.func31 (c := Try.f31.body.get!) (by kernel_rfl) k31 r31 (of_decide_eq_true rfl) fun _ => ?_
  unfold c31; unfold strR strO sendS valV; simp
  refine callW_ms [.ro] ?_
  simp [strR]
  refine callX_of (w80 s hb) (by simp) ?_
  simp [strO]
  by_cases h1 : StrOkP k s
  · refine callW_ms [.ro, .ro] ?_
    simp [strR]
    refine callX_of ((w18 k s hb).t h1) (by simp) ?_
    simp
    by_cases h2 : ofK k v
    · refine callW_ms [.ro, .ro] ?_
      simp [valV]
      refine callX_of ((w81 v k).t h2) (by simp) ?_
      simp
      have h200 := h1.2.2.2
      refine ⟨fun h3 => ?_, fun h3 => ?_⟩
      · have h4 : ¬ s.2.2.length < 200 := by omega
        simp [h4]
      · have h4 : s.2.2.length < 200 := by omega
        simp [h1, h2, h4]
        omega
    · refine callW_ms [.ro, .ro] ?_
      simp [valV]
      refine callX_of ((w81 v k).f h2) (by simp) ?_
      simp [h2]
  · refine callW_ms [.ro, .ro] ?_
    simp [strR]
    refine callX_of ((w18 k s hb).f h1) (by simp) ?_
    simp [h1]
theorem sendS_len (k : Int) (s : StrP) (v : ValP) : (sendS k s v).1.2.1.length = s.2.1.length ∧ (sendS k s v).1.2.2.length ≤ s.2.2.length + 1 := by
  unfold sendS; split <;> simp
theorem w4 (s : StrP) (hb : strB 9223372036854775807 s) : Contract Try.prog false 4 [.ro] [strR s] [.b true] [] := by
  refine mk_contract [] Try.func4 (c := Try.f4.body.get!) (by kernel_rfl) k4 r4 (of_decide_eq_true rfl) fun _ => ?_
  unfold c4; unfold strR; simp
  refine callW_ms [.ro, .ro] ?_
  simp [strR]
  refine callX_of (w15 s _ hb (by omega) (by omega)) (by simp) ?_
  simp
  intro h
  obtain ⟨-, -, hk⟩ := szStr_ok (k := 2^20) (by omega) (by omega) (by omega : ¬ szStrF s 1048576 < 0)
  have hk2 : strB (2^40) s := by unfold strB at hk ⊢; omega
  have hk3 : strB (2^30) s := by unfold strB at hk ⊢; omega
  have hS := w20 s hk2
  have hI := w21 s hk2
  have hl : strB (2^20) (turnS s) := ⟨hk.2, by simp [turnS]⟩
  generalize turnS s = g at hS hI hl
  have hl2 : strB (2^40) g := by unfold strB at hl ⊢; omega
  have hl3 : strB (2^30) g := by unfold strB at hl ⊢; omega
  obtain ⟨k1, k2⟩ := hk
  obtain ⟨l1, l2⟩ := hl
  refine callW_ms [.ro] ?_
  simp [strR]
  refine callX_of (w17 s hk2) (by simp) ?_
  simp [strO]
  refine callW_ms [.ro] ?_
  simp
  refine callX_of hS (by simp [strR]) ?_
  simp [strO]
  refine callW_ms [.ro] ?_
  simp [strR]
  refine callX_of (w17 s hk2) (by simp) ?_
  simp [strO]
  refine callW_ms [.ro] ?_
  simp
  refine callX_of hI (by simp [strR]) ?_
  simp [strO]
  refine callW_ms [.ro, .ro] ?_
  simp [strR]
  refine callX_of (w19 g hl2) (by simp) ?_
  simp
  refine callW_ms [.ro] ?_
  simp [strR]
  refine callX_of (w17 s hk2) (by simp) ?_
  simp [strO]
  refine callW_ms [.ro, .ro] ?_
  simp [strR]
  refine callX_of (w19 s hk2) (by simp) ?_
  simp
  have hk : ¬ (1 + 4 * (s.2.1.length : Int) + 4 * s.2.2.length < 0) := by omega
  refine callW_ms [.own, .ro] ?_
  simp
  refine callX_of (w22 s 1 hk3 (by omega) (by omega)) (by simp) ?_
  simp [strO, hk]
  refine callW_ms [.ro, .ro] ?_
  simp [strR]
  refine callX_of (w19 g hl2) (by simp) ?_
  simp
  refine callW_ms [.own, .ro] ?_
  simp
  refine callX_of (w22 g 1 hl3 (by omega) (by omega)) (by simp) ?_
  simp [strO]
  refine callW_ms [.ro, .ro] ?_
  simp [strR]
  refine callX_of (w23 g.1 g.2.1.length g.2.2.length 1 (by omega) (by omega) (by omega) (by omega)) (by simp) ?_
  simp
  refine ⟨by omega, fun _ => ?_⟩
  refine callW_ms [.ro] ?_
  simp [strR]
  refine callX_of (w17 s hk2) (by simp) ?_
  simp [strO]
  refine callW_ms [.ro] ?_
  simp
  refine callX_of hI (by simp [strR]) ?_
  simp [strO]
  refine callW_ms [.ro, .ro] ?_
  simp [strR]
  refine callX_of (w19 g hl2) (by simp) ?_
  simp
  refine callW_ms [.ro, .ro] ?_
  simp [strR]
  refine callX_of (w23 g.1 g.2.1.length g.2.2.length 1 (by omega) (by omega) (by omega) (by omega)) (by simp) ?_
  simp
  omega
theorem w6 (k : Int) (s : StrP) (v : ValP) (hb : strB 9223372036854775807 s) (hf : valsF s.2.1) (hf2 : valsF s.2.2) (hv : valOkF v) : Contract Try.prog false 6 [.ro, .ro, .ro] [.i .i64 k, strR s, valV v] [.b true] [] := by
  refine mk_contract [] Try.func6 (c := Try.f6.body.get!) (by kernel_rfl) k6 r6 (of_decide_eq_true rfl) fun _ => ?_
  unfold c6; unfold strR valV; simp
  refine callW_ms [.ro, .ro] ?_
  simp [strR]
  refine callX_of (w15 s _ hb (by omega) (by omega)) (by simp) ?_
  simp
  intro h
  obtain ⟨-, -, hk⟩ := szStr_ok (k := 2^20) (by omega) (by omega) (by omega : ¬ szStrF s 1048576 < 0)
  have hk2 : strB (2^40) s := by unfold strB at hk ⊢; omega
  have hk3 : strB (2^30) s := by unfold strB at hk ⊢; omega
  have hS := w29 k s v hk2 hf hf2 hv
  have hI := w31 k s v hk2
  have hl := sendS_len k s v
  generalize sendS k s v = gb at hS hI hl
  obtain ⟨g, b⟩ := gb
  simp only at hS hI hl
  obtain ⟨k1, k2⟩ := hk
  obtain ⟨l1, l2⟩ := hl
  have hl2 : strB (2^40) g := by unfold strB; omega
  have hl3 : strB (2^30) g := by unfold strB; omega
  refine callW_ms [.ro] ?_
  simp [strR]
  refine callX_of (w17 s hk2) (by simp) ?_
  simp [strO]
  refine callW_ms [.ro] ?_
  simp [valV]
  refine callX_of (w30 v) (by simp) ?_
  simp [valV]
  refine callW_ms [.ro, .ro, .ro] ?_
  simp
  refine callX_of hS (by simp [strR, valV]) ?_
  simp [strO]
  refine callW_ms [.ro] ?_
  simp [strR]
  refine callX_of (w17 s hk2) (by simp) ?_
  simp [strO]
  refine callW_ms [.ro] ?_
  simp [valV]
  refine callX_of (w30 v) (by simp) ?_
  simp [valV]
  refine callW_ms [.ro, .ro, .ro] ?_
  simp
  refine callX_of hI (by simp [strR, valV]) ?_
  simp [strO]
  refine callW_ms [.ro, .ro] ?_
  simp [strR]
  refine callX_of (w19 g hl2) (by simp) ?_
  simp
  refine callW_ms [.ro] ?_
  simp [strR]
  refine callX_of (w17 s hk2) (by simp) ?_
  simp [strO]
  refine callW_ms [.ro, .ro] ?_
  simp [strR]
  refine callX_of (w19 s hk2) (by simp) ?_
  simp
  have hk : ¬ (1 + 4 * (s.2.1.length : Int) + 4 * s.2.2.length < 0) := by omega
  refine callW_ms [.own, .ro] ?_
  simp
  refine callX_of (w22 s 1 hk3 (by omega) (by omega)) (by simp) ?_
  simp [strO, hk]
  refine callW_ms [.ro, .ro] ?_
  simp [strR]
  refine callX_of (w19 g hl2) (by simp) ?_
  simp
  refine callW_ms [.own, .ro] ?_
  simp
  refine callX_of (w22 g 1 hl3 (by omega) (by omega)) (by simp) ?_
  simp [strO]
  refine callW_ms [.ro, .ro] ?_
  simp [strR]
  refine callX_of (w23 g.1 g.2.1.length g.2.2.length 1 (by omega) (by omega) (by omega) (by omega)) (by simp) ?_
  simp
  refine ⟨by omega, fun _ => ?_⟩
  refine callW_ms [.ro] ?_
  simp [strR]
  refine callX_of (w17 s hk2) (by simp) ?_
  simp [strO]
  refine callW_ms [.ro] ?_
  simp [valV]
  refine callX_of (w30 v) (by simp) ?_
  simp [valV]
  refine callW_ms [.ro, .ro, .ro] ?_
  simp
  refine callX_of hI (by simp [strR, valV]) ?_
  simp [strO]
  refine callW_ms [.ro, .ro] ?_
  simp [strR]
  refine callX_of (w19 g hl2) (by simp) ?_
  simp
  refine callW_ms [.ro, .ro] ?_
  simp [strR]
  refine callX_of (w23 g.1 g.2.1.length g.2.2.length 1 (by omega) (by omega) (by omega) (by omega)) (by simp) ?_
  simp
  omega
end Go.Proofs.YtloodkhdngipbaaT
