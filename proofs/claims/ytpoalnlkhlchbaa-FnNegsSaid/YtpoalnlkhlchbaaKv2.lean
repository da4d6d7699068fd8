/- Values: right, nought, pairs. -/
import Derived.Test.YtpoalnlkhlchbaaKv1
namespace Go.Proofs.YtpoalnlkhlchbaaT
set_option linter.unusedVariables false
set_option linter.unusedSimpArgs false
open Go

/- spec.ValOk -/
def c18 : TCode := (.seq (.ops [⟨(some 1), 3, .box 4 (.t 0), none, []⟩, ⟨(some 2), 4, .mv (.c (.b false)), none, []⟩])
  (.seq (.seq (.ops [⟨(some 3), 5, .faddr 0 1 (.t 1), none, []⟩, ⟨(some 4), 6, .load false 1 (.t 3), none, []⟩])
  (.block 0 (.seq (.ops [⟨(some 6), 8, .bin .eql (.t 4) (.c (.i .i64 1)), none, []⟩, ⟨(some 5), 7, .mv (.t 6), none, []⟩])
  (.cond (.t 5)
  (.seq (.ops [⟨(some 7), 9, .faddr 2 1 (.t 1), none, []⟩, ⟨(some 8), 10, .load false 1 (.t 7), none, []⟩, ⟨(some 9), 11, .call 42 [((.t 8), 0)], none, []⟩, ⟨(some 10), 12, .mv (.t 9), none, []⟩, ⟨(some 11), 13, .faddr 3 1 (.t 1), (some (10, true)), []⟩, ⟨(some 12), 14, .load false 1 (.t 11), (some (10, true)), []⟩, ⟨(some 13), 15, .call 42 [((.t 12), 0)], (some (10, true)), []⟩, ⟨(some 14), 16, .pick (.t 10) (.t 13) (.c (.b false)), none, []⟩, ⟨(some 2), 4, .mv (.t 14), none, []⟩])
  .ret)
  (.seq (.ops [⟨(some 16), 18, .bin .eql (.t 4) (.c (.i .i64 2)), none, []⟩, ⟨(some 15), 17, .mv (.t 16), none, []⟩])
  (.cond (.t 15)
  (.seq (.ops [⟨(some 17), 19, .faddr 1 1 (.t 1), none, []⟩, ⟨(some 18), 20, .load false 1 (.t 17), none, []⟩, ⟨(some 19), 21, .bin .eql (.t 18) (.c (.i .i64 0)), none, []⟩, ⟨(some 20), 22, .mv (.t 19), none, []⟩, ⟨(some 21), 23, .faddr 3 1 (.t 1), (some (20, true)), []⟩, ⟨(some 22), 24, .load false 1 (.t 21), (some (20, true)), []⟩, ⟨(some 23), 25, .call 42 [((.t 22), 0)], (some (20, true)), []⟩, ⟨(some 24), 26, .pick (.t 20) (.t 23) (.c (.b false)), none, []⟩, ⟨(some 2), 4, .mv (.t 24), none, []⟩])
  .ret)
  (.seq (.ops [⟨(some 26), 28, .bin .eql (.t 4) (.c (.i .i64 3)), none, []⟩, ⟨(some 25), 27, .mv (.t 26), none, []⟩])
  (.cond (.t 25)
  (.seq (.ops [⟨(some 27), 29, .faddr 1 1 (.t 1), none, []⟩, ⟨(some 28), 30, .load false 1 (.t 27), none, []⟩, ⟨(some 29), 31, .bin .eql (.t 28) (.c (.i .i64 0)), none, []⟩, ⟨(some 2), 4, .mv (.t 29), none, []⟩])
  .ret)
  (.seq (.ops [⟨(some 31), 33, .bin .eql (.t 4) (.c (.i .i64 4)), none, []⟩, ⟨(some 30), 32, .mv (.t 31), none, []⟩])
  (.cond (.t 30)
  (.seq (.ops [⟨(some 32), 34, .faddr 1 1 (.t 1), none, []⟩, ⟨(some 33), 35, .load false 1 (.t 32), none, []⟩, ⟨(some 34), 36, .bin .eql (.t 33) (.c (.i .i64 0)), none, []⟩, ⟨(some 35), 37, .mv (.t 34), none, []⟩, ⟨(some 36), 38, .faddr 1 1 (.t 1), (some (35, false)), []⟩, ⟨(some 37), 39, .load false 1 (.t 36), (some (35, false)), []⟩, ⟨(some 38), 40, .bin .eql (.t 37) (.c (.i .i64 1)), (some (35, false)), []⟩, ⟨(some 39), 41, .pick (.t 35) (.c (.b true)) (.t 38), none, []⟩, ⟨(some 40), 42, .mv (.t 39), none, []⟩, ⟨(some 41), 43, .faddr 2 1 (.t 1), (some (40, true)), []⟩, ⟨(some 42), 44, .load false 1 (.t 41), (some (40, true)), []⟩, ⟨(some 43), 45, .call 42 [((.t 42), 0)], (some (40, true)), []⟩, ⟨(some 44), 46, .pick (.t 40) (.t 43) (.c (.b false)), none, []⟩, ⟨(some 45), 47, .mv (.t 44), none, []⟩, ⟨(some 46), 48, .faddr 3 1 (.t 1), (some (45, true)), []⟩, ⟨(some 47), 49, .load false 1 (.t 46), (some (45, true)), []⟩, ⟨(some 48), 50, .call 42 [((.t 47), 0)], (some (45, true)), []⟩, ⟨(some 49), 51, .pick (.t 45) (.t 48) (.c (.b false)), none, []⟩, ⟨(some 2), 4, .mv (.t 49), none, []⟩])
  .ret)
  .skip))))))))))
  (.seq (.ops [⟨(some 2), 4, .mv (.c (.b false)), none, []⟩])
  .ret)))
theorem k18 : compCode Try.prog Try.f18.ntmps Try.f18.body.get! = some c18 := by kernel_rfl
theorem r18 : resTmps Try.prog Try.f18.results.toList = some [.tmp 2] := by kernel_rfl
/- impl.ValOk -/
def c19 : TCode := (.seq (.ops [⟨(some 1), 3, .box 4 (.t 0), none, []⟩, ⟨(some 2), 4, .mv (.c (.b false)), none, []⟩])
  (.seq (.seq (.ops [⟨(some 3), 5, .faddr 0 1 (.t 1), none, []⟩, ⟨(some 4), 6, .load false 1 (.t 3), none, []⟩])
  (.block 0 (.seq (.ops [⟨(some 6), 8, .bin .eql (.t 4) (.c (.i .i64 1)), none, []⟩, ⟨(some 5), 7, .mv (.t 6), none, []⟩])
  (.cond (.t 5)
  (.seq (.ops [⟨(some 7), 9, .faddr 2 1 (.t 1), none, []⟩, ⟨(some 8), 10, .load false 1 (.t 7), none, []⟩, ⟨(some 9), 11, .call 43 [((.t 8), 0)], none, []⟩, ⟨(some 10), 12, .mv (.t 9), none, []⟩, ⟨(some 11), 13, .faddr 3 1 (.t 1), (some (10, true)), []⟩, ⟨(some 12), 14, .load false 1 (.t 11), (some (10, true)), []⟩, ⟨(some 13), 15, .call 43 [((.t 12), 0)], (some (10, true)), []⟩, ⟨(some 14), 16, .pick (.t 10) (.t 13) (.c (.b false)), none, []⟩, ⟨(some 2), 4, .mv (.t 14), none, []⟩])
  .ret)
  (.seq (.ops [⟨(some 16), 18, .bin .eql (.t 4) (.c (.i .i64 2)), none, []⟩, ⟨(some 15), 17, .mv (.t 16), none, []⟩])
  (.cond (.t 15)
  (.seq (.ops [⟨(some 17), 19, .faddr 1 1 (.t 1), none, []⟩, ⟨(some 18), 20, .load false 1 (.t 17), none, []⟩, ⟨(some 19), 21, .bin .eql (.t 18) (.c (.i .i64 0)), none, []⟩, ⟨(some 20), 22, .mv (.t 19), none, []⟩, ⟨(some 21), 23, .faddr 3 1 (.t 1), (some (20, true)), []⟩, ⟨(some 22), 24, .load false 1 (.t 21), (some (20, true)), []⟩, ⟨(some 23), 25, .call 43 [((.t 22), 0)], (some (20, true)), []⟩, ⟨(some 24), 26, .pick (.t 20) (.t 23) (.c (.b false)), none, []⟩, ⟨(some 2), 4, .mv (.t 24), none, []⟩])
  .ret)
  (.seq (.ops [⟨(some 26), 28, .bin .eql (.t 4) (.c (.i .i64 3)), none, []⟩, ⟨(some 25), 27, .mv (.t 26), none, []⟩])
  (.cond (.t 25)
  (.seq (.ops [⟨(some 27), 29, .faddr 1 1 (.t 1), none, []⟩, ⟨(some 28), 30, .load false 1 (.t 27), none, []⟩, ⟨(some 29), 31, .bin .eql (.t 28) (.c (.i .i64 0)), none, []⟩, ⟨(some 2), 4, .mv (.t 29), none, []⟩])
  .ret)
  (.seq (.ops [⟨(some 31), 33, .bin .eql (.t 4) (.c (.i .i64 4)), none, []⟩, ⟨(some 30), 32, .mv (.t 31), none, []⟩])
  (.cond (.t 30)
  (.seq (.ops [⟨(some 32), 34, .faddr 1 1 (.t 1), none, []⟩, ⟨(some 33), 35, .load false 1 (.t 32), none, []⟩, ⟨(some 34), 36, .call 44 [((.t 33), 0), ((.c (.i .i64 0)), 0), ((.c (.i .i64 1)), 0)], none, []⟩, ⟨(some 35), 37, .mv (.t 34), none, []⟩, ⟨(some 36), 38, .faddr 2 1 (.t 1), (some (35, true)), []⟩, ⟨(some 37), 39, .load false 1 (.t 36), (some (35, true)), []⟩, ⟨(some 38), 40, .call 43 [((.t 37), 0)], (some (35, true)), []⟩, ⟨(some 39), 41, .pick (.t 35) (.t 38) (.c (.b false)), none, []⟩, ⟨(some 40), 42, .mv (.t 39), none, []⟩, ⟨(some 41), 43, .faddr 3 1 (.t 1), (some (40, true)), []⟩, ⟨(some 42), 44, .load false 1 (.t 41), (some (40, true)), []⟩, ⟨(some 43), 45, .call 43 [((.t 42), 0)], (some (40, true)), []⟩, ⟨(some 44), 46, .pick (.t 40) (.t 43) (.c (.b false)), none, []⟩, ⟨(some 2), 4, .mv (.t 44), none, []⟩])
  .ret)
  .skip))))))))))
  (.seq (.ops [⟨(some 2), 4, .mv (.c (.b false)), none, []⟩])
  .ret)))
theorem k19 : compCode Try.prog Try.f19.ntmps Try.f19.body.get! = some c19 := by kernel_rfl
theorem r19 : resTmps Try.prog Try.f19.results.toList = some [.tmp 2] := by kernel_rfl
/- laws.FnExactValOk -/
def c4 : TCode := (.seq (.ops [⟨(some 1), 3, .box 4 (.t 0), none, []⟩, ⟨(some 2), 4, .mv (.c (.b false)), none, []⟩])
  (.seq (.ops [⟨(some 5), 7, .load true 4 (.t 1), none, []⟩, ⟨(some 6), 8, .call 16 [((.t 5), 0)], none, []⟩, ⟨(some 7), 9, .call 18 [((.t 6), 0)], none, []⟩, ⟨(some 3), 5, .mv (.t 7), none, []⟩])
  (.seq (.ops [⟨(some 8), 10, .load true 4 (.t 1), none, []⟩, ⟨(some 9), 11, .call 16 [((.t 8), 0)], none, []⟩, ⟨(some 10), 12, .call 19 [((.t 9), 0)], none, []⟩, ⟨(some 4), 6, .mv (.t 10), none, []⟩])
  (.seq (.seq (.ops [⟨(some 11), 13, .mv (.t 4), none, []⟩, ⟨(some 12), 14, .mv (.t 3), none, []⟩, ⟨(some 13), 15, .eqs true false [.b] (.t 11) (.t 12), none, []⟩])
  (.cond (.t 13)
  (.seq (.ops [⟨(some 2), 4, .mv (.c (.b false)), none, []⟩])
  .ret)
  .skip))
  (.seq (.ops [⟨(some 2), 4, .mv (.c (.b true)), none, []⟩])
  .ret)))))
theorem k4 : compCode Try.prog Try.f4.ntmps Try.f4.body.get! = some c4 := by kernel_rfl
theorem r4 : resTmps Try.prog Try.f4.results.toList = some [.tmp 2] := by kernel_rfl
/- spec.ValZero -/
def c20 : TCode := (.seq (.ops [⟨(some 2), 4, .box 4 (.c (.ag [(.i .i64 0), (.i .i64 0), (.f 0), (.f 0)])), none, []⟩])
  (.seq (.seq (.ops [⟨(some 3), 5, .mv (.t 0), none, []⟩, ⟨(some 4), 6, .call 45 [((.t 3), 0), ((.c (.i .i64 1)), 0), ((.c (.i .i64 4)), 0)], none, []⟩, ⟨(some 5), 7, .un .not (.t 4), none, []⟩])
  (.cond (.t 5)
  (.seq (.ops [⟨(some 6), 8, .build [(.i .i64 0), (.i .i64 0), (.f 0), (.f 0)] [], none, []⟩, ⟨none, 1002001, .store 4 (.t 2) (.t 6), none, []⟩])
  .ret)
  .skip))
  (.seq (.ops [⟨(some 7), 9, .mv (.t 0), none, []⟩, ⟨(some 8), 10, .build [(.i .i64 0), (.i .i64 0), (.f 0), (.f 0)] [(0, 1, (.t 7))], none, []⟩, ⟨none, 1003002, .store 4 (.t 2) (.t 8), none, []⟩])
  .ret)))
theorem k20 : compCode Try.prog Try.f20.ntmps Try.f20.body.get! = some c20 := by kernel_rfl
theorem r20 : resTmps Try.prog Try.f20.results.toList = some [.cell 2 true 4] := by kernel_rfl
/- impl.ValZero -/
def c21 : TCode := (.seq (.ops [⟨(some 2), 4, .box 4 (.c (.ag [(.i .i64 0), (.i .i64 0), (.f 0), (.f 0)])), none, []⟩])
  (.seq (.seq (.ops [⟨(some 3), 5, .mv (.t 0), none, []⟩, ⟨(some 4), 6, .call 46 [((.t 3), 0)], none, []⟩, ⟨(some 5), 7, .un .not (.t 4), none, []⟩])
  (.cond (.t 5)
  (.seq (.ops [⟨(some 6), 8, .build [(.i .i64 0), (.i .i64 0), (.f 0), (.f 0)] [], none, []⟩, ⟨none, 1002001, .store 4 (.t 2) (.t 6), none, []⟩])
  .ret)
  .skip))
  (.seq (.ops [⟨(some 7), 9, .mv (.t 0), none, []⟩, ⟨(some 8), 10, .build [(.i .i64 0), (.i .i64 0), (.f 0), (.f 0)] [(0, 1, (.t 7))], none, []⟩, ⟨none, 1003002, .store 4 (.t 2) (.t 8), none, []⟩])
  .ret)))
theorem k21 : compCode Try.prog Try.f21.ntmps Try.f21.body.get! = some c21 := by kernel_rfl
theorem r21 : resTmps Try.prog Try.f21.results.toList = some [.cell 2 true 4] := by kernel_rfl
/- laws.FnExactValZero -/
def c5 : TCode := (.seq (.ops [⟨(some 2), 4, .mv (.c (.b false)), none, []⟩])
  (.seq (.ops [⟨(some 5), 7, .mv (.t 0), none, []⟩, ⟨(some 6), 8, .call 20 [((.t 5), 0)], none, []⟩, ⟨(some 3), 5, .box 4 (.c (.ag [(.i .i64 0), (.i .i64 0), (.f 0), (.f 0)])), none, []⟩, ⟨none, 1001003, .store 4 (.t 3) (.t 6), none, []⟩])
  (.seq (.ops [⟨(some 7), 9, .mv (.t 0), none, []⟩, ⟨(some 8), 10, .call 21 [((.t 7), 0)], none, []⟩, ⟨(some 4), 6, .box 4 (.c (.ag [(.i .i64 0), (.i .i64 0), (.f 0), (.f 0)])), none, []⟩, ⟨none, 1002003, .store 4 (.t 4) (.t 8), none, []⟩])
  (.seq (.seq (.ops [⟨(some 9), 11, .load true 4 (.t 4), none, []⟩, ⟨(some 10), 12, .load true 4 (.t 3), none, []⟩, ⟨(some 11), 13, .call 22 [((.t 9), 0), ((.t 10), 0)], none, []⟩, ⟨(some 12), 14, .un .not (.t 11), none, []⟩])
  (.cond (.t 12)
  (.seq (.ops [⟨(some 2), 4, .mv (.c (.b false)), none, []⟩])
  .ret)
  .skip))
  (.seq (.ops [⟨(some 2), 4, .mv (.c (.b true)), none, []⟩])
  .ret)))))
theorem k5 : compCode Try.prog Try.f5.ntmps Try.f5.body.get! = some c5 := by kernel_rfl
theorem r5 : resTmps Try.prog Try.f5.results.toList = some [.tmp 2] := by kernel_rfl
/- spec.ValPair -/
def c23 : TCode := (.seq (.ops [⟨(some 2), 4, .box 4 (.t 0), none, []⟩, ⟨(some 3), 5, .box 4 (.t 1), none, []⟩, ⟨(some 4), 6, .box 4 (.c (.ag [(.i .i64 0), (.i .i64 0), (.f 0), (.f 0)])), none, []⟩, ⟨(some 5), 7, .mv (.c (.b false)), none, []⟩])
  (.seq (.seq (.ops [⟨(some 6), 8, .load true 4 (.t 2), none, []⟩, ⟨(some 7), 9, .call 18 [((.t 6), 0)], none, []⟩, ⟨(some 8), 10, .un .not (.t 7), none, []⟩, ⟨(some 9), 11, .mv (.t 8), none, []⟩, ⟨(some 10), 12, .load true 4 (.t 3), (some (9, false)), []⟩, ⟨(some 11), 13, .call 18 [((.t 10), 0)], (some (9, false)), []⟩, ⟨(some 12), 14, .un .not (.t 11), (some (9, false)), []⟩, ⟨(some 13), 15, .pick (.t 9) (.c (.b true)) (.t 12), none, []⟩, ⟨(some 14), 16, .mv (.t 13), none, []⟩, ⟨(some 15), 17, .faddr 0 1 (.t 2), (some (14, false)), []⟩, ⟨(some 16), 18, .load false 1 (.t 15), (some (14, false)), []⟩, ⟨(some 17), 19, .bin .neq (.t 16) (.c (.i .i64 2)), (some (14, false)), []⟩, ⟨(some 18), 20, .pick (.t 14) (.c (.b true)) (.t 17), none, []⟩, ⟨(some 19), 21, .mv (.t 18), none, []⟩, ⟨(some 20), 22, .faddr 0 1 (.t 3), (some (19, false)), []⟩, ⟨(some 21), 23, .load false 1 (.t 20), (some (19, false)), []⟩, ⟨(some 22), 24, .bin .neq (.t 21) (.c (.i .i64 2)), (some (19, false)), []⟩, ⟨(some 23), 25, .pick (.t 19) (.c (.b true)) (.t 22), none, []⟩])
  (.cond (.t 23)
  (.seq (.ops [⟨(some 24), 26, .build [(.i .i64 0), (.i .i64 0), (.f 0), (.f 0)] [], none, []⟩, ⟨none, 1002001, .store 4 (.t 4) (.t 24), none, []⟩, ⟨(some 5), 7, .mv (.c (.b false)), none, []⟩])
  .ret)
  .skip))
  (.seq (.ops [⟨(some 25), 27, .faddr 2 1 (.t 2), none, []⟩, ⟨(some 26), 28, .load false 1 (.t 25), none, []⟩, ⟨(some 27), 29, .faddr 2 1 (.t 3), none, []⟩, ⟨(some 28), 30, .load false 1 (.t 27), none, []⟩, ⟨(some 29), 31, .build [(.i .i64 0), (.i .i64 0), (.f 0), (.f 0)] [(0, 1, (.c (.i .i64 3))), (2, 1, (.t 26)), (3, 1, (.t 28))], none, []⟩, ⟨none, 1003005, .store 4 (.t 4) (.t 29), none, []⟩, ⟨(some 5), 7, .mv (.c (.b true)), none, []⟩])
  .ret)))
theorem k23 : compCode Try.prog Try.f23.ntmps Try.f23.body.get! = some c23 := by kernel_rfl
theorem r23 : resTmps Try.prog Try.f23.results.toList = some [.cell 4 true 4, .tmp 5] := by kernel_rfl
/- impl.ValPair -/
def c24 : TCode := (.seq (.ops [⟨(some 2), 4, .box 4 (.t 0), none, []⟩, ⟨(some 3), 5, .box 4 (.t 1), none, []⟩, ⟨(some 4), 6, .box 4 (.c (.ag [(.i .i64 0), (.i .i64 0), (.f 0), (.f 0)])), none, []⟩, ⟨(some 5), 7, .mv (.c (.b false)), none, []⟩])
  (.seq (.seq (.ops [⟨(some 6), 8, .load true 4 (.t 2), none, []⟩, ⟨(some 7), 9, .call 19 [((.t 6), 0)], none, []⟩, ⟨(some 8), 10, .un .not (.t 7), none, []⟩, ⟨(some 9), 11, .mv (.t 8), none, []⟩, ⟨(some 10), 12, .load true 4 (.t 3), (some (9, false)), []⟩, ⟨(some 11), 13, .call 19 [((.t 10), 0)], (some (9, false)), []⟩, ⟨(some 12), 14, .un .not (.t 11), (some (9, false)), []⟩, ⟨(some 13), 15, .pick (.t 9) (.c (.b true)) (.t 12), none, []⟩, ⟨(some 14), 16, .mv (.t 13), none, []⟩, ⟨(some 15), 17, .faddr 0 1 (.t 2), (some (14, false)), []⟩, ⟨(some 16), 18, .load false 1 (.t 15), (some (14, false)), []⟩, ⟨(some 17), 19, .bin .neq (.t 16) (.c (.i .i64 2)), (some (14, false)), []⟩, ⟨(some 18), 20, .pick (.t 14) (.c (.b true)) (.t 17), none, []⟩, ⟨(some 19), 21, .mv (.t 18), none, []⟩, ⟨(some 20), 22, .faddr 0 1 (.t 3), (some (19, false)), []⟩, ⟨(some 21), 23, .load false 1 (.t 20), (some (19, false)), []⟩, ⟨(some 22), 24, .bin .neq (.t 21) (.c (.i .i64 2)), (some (19, false)), []⟩, ⟨(some 23), 25, .pick (.t 19) (.c (.b true)) (.t 22), none, []⟩])
  (.cond (.t 23)
  (.seq (.ops [⟨(some 24), 26, .build [(.i .i64 0), (.i .i64 0), (.f 0), (.f 0)] [], none, []⟩, ⟨none, 1002001, .store 4 (.t 4) (.t 24), none, []⟩, ⟨(some 5), 7, .mv (.c (.b false)), none, []⟩])
  .ret)
  .skip))
  (.seq (.ops [⟨(some 25), 27, .faddr 2 1 (.t 2), none, []⟩, ⟨(some 26), 28, .load false 1 (.t 25), none, []⟩, ⟨(some 27), 29, .faddr 2 1 (.t 3), none, []⟩, ⟨(some 28), 30, .load false 1 (.t 27), none, []⟩, ⟨(some 29), 31, .build [(.i .i64 0), (.i .i64 0), (.f 0), (.f 0)] [(0, 1, (.c (.i .i64 3))), (2, 1, (.t 26)), (3, 1, (.t 28))], none, []⟩, ⟨none, 1003005, .store 4 (.t 4) (.t 29), none, []⟩, ⟨(some 5), 7, .mv (.c (.b true)), none, []⟩])
  .ret)))
theorem k24 : compCode Try.prog Try.f24.ntmps Try.f24.body.get! = some c24 := by kernel_rfl
theorem r24 : resTmps Try.prog Try.f24.results.toList = some [.cell 4 true 4, .tmp 5] := by kernel_rfl
/- laws.FnExactValPair -/
def c6 : TCode := (.seq (.ops [⟨(some 2), 4, .box 4 (.t 0), none, []⟩, ⟨(some 3), 5, .box 4 (.t 1), none, []⟩, ⟨(some 4), 6, .mv (.c (.b false)), none, []⟩])
  (.seq (.draw [⟨(some 10), 12, .load true 4 (.t 2), none, []⟩, ⟨(some 11), 13, .call 16 [((.t 10), 0)], none, []⟩, ⟨(some 12), 14, .load true 4 (.t 3), none, [1]⟩, ⟨(some 13), 15, .call 16 [((.t 12), 0)], none, []⟩, ⟨(some 14), 16, .call 23 [((.t 11), 0), ((.t 13), 0)], none, []⟩, ⟨(some 9), 11, .mv (.t 14), none, []⟩, ⟨(some 15), 17, .ext 0 (.t 9), none, []⟩, ⟨(some 16), 18, .ext 1 (.t 9), none, []⟩, ⟨(some 5), 7, .box 4 (.c (.ag [(.i .i64 0), (.i .i64 0), (.f 0), (.f 0)])), none, [0, 1, 2, 3, 4, 5, 6, 7]⟩, ⟨none, 1001009, .store 4 (.t 5) (.t 15), none, [1000000, 7]⟩, ⟨(some 6), 8, .mv (.t 16), none, []⟩])
  (.seq (.draw [⟨(some 18), 20, .load true 4 (.t 2), none, []⟩, ⟨(some 19), 21, .call 16 [((.t 18), 0)], none, []⟩, ⟨(some 20), 22, .load true 4 (.t 3), none, [1]⟩, ⟨(some 21), 23, .call 16 [((.t 20), 0)], none, []⟩, ⟨(some 22), 24, .call 24 [((.t 19), 0), ((.t 21), 0)], none, []⟩, ⟨(some 17), 19, .mv (.t 22), none, []⟩, ⟨(some 23), 25, .ext 0 (.t 17), none, []⟩, ⟨(some 24), 26, .ext 1 (.t 17), none, []⟩, ⟨(some 7), 9, .box 4 (.c (.ag [(.i .i64 0), (.i .i64 0), (.f 0), (.f 0)])), none, [0, 1, 2, 3, 4, 5, 6, 7]⟩, ⟨none, 1002009, .store 4 (.t 7) (.t 23), none, [1000000, 7]⟩, ⟨(some 8), 10, .mv (.t 24), none, []⟩])
  (.seq (.seq (.ops [⟨(some 25), 27, .load true 4 (.t 7), none, []⟩, ⟨(some 26), 28, .load true 4 (.t 5), none, []⟩, ⟨(some 27), 29, .call 22 [((.t 25), 0), ((.t 26), 0)], none, []⟩, ⟨(some 28), 30, .un .not (.t 27), none, []⟩, ⟨(some 29), 31, .mv (.t 28), none, []⟩, ⟨(some 30), 32, .mv (.t 8), (some (29, false)), []⟩, ⟨(some 31), 33, .mv (.t 6), (some (29, false)), []⟩, ⟨(some 32), 34, .eqs true false [.b] (.t 30) (.t 31), (some (29, false)), []⟩, ⟨(some 33), 35, .pick (.t 29) (.c (.b true)) (.t 32), none, []⟩])
  (.cond (.t 33)
  (.seq (.ops [⟨(some 4), 6, .mv (.c (.b false)), none, []⟩])
  .ret)
  .skip))
  (.seq (.ops [⟨(some 4), 6, .mv (.c (.b true)), none, []⟩])
  .ret)))))
theorem k6 : compCode Try.prog Try.f6.ntmps Try.f6.body.get! = some c6 := by kernel_rfl
theorem r6 : resTmps Try.prog Try.f6.results.toList = some [.tmp 4] := by kernel_rfl

def ValOkP (v : ValP) : Prop := (v.1 = 1 ∧ v.2.2.1 = 0 ∧ v.2.2.2 = 0) ∨ (v.1 = 2 ∧ v.2.1 = 0 ∧ v.2.2.2 = 0) ∨ (v.1 = 3 ∧ v.2.1 = 0) ∨ (v.1 = 4 ∧ (v.2.1 = 0 ∨ v.2.1 = 1) ∧ v.2.2.1 = 0 ∧ v.2.2.2 = 0)
instance (v : ValP) : Decidable (ValOkP v) := by unfold ValOkP; infer_instance
theorem w18 (v : ValP) (hv : valOkF v) : Contract Try.prog false 18 [.ro] [valV v] [.b (decide (ValOkP v))] [] := by
  refine mk_contract [] Try.func18 (c := Try.f18.body.get!) (by kernel_rfl) k18 r18 (of_decide_eq_true rfl) fun _ => ?_
  unfold c18; unfold valV ValOkP; simp
  by_cases k1 : v.1 = 1
  · simp [k1]
    by_cases h1 : v.2.2.1 = 0
    · refine callW_ms [.ro] ?_
      simp
      refine callX_of ((w42 _ hv.1).t h1) (by simp) ?_
      simp
      refine callW_ms [.ro] ?_
      simp
      refine callX_of (w42 _ hv.2) (by simp) ?_
      simp [h1]
    · refine callW_ms [.ro] ?_
      simp
      refine callX_of ((w42 _ hv.1).f h1) (by simp) ?_
      simp [h1]
  by_cases k2 : v.1 = 2
  · simp [k2]
    by_cases h1 : v.2.1 = 0
    · simp [h1]
      refine callW_ms [.ro] ?_
      simp
      refine callX_of (w42 _ hv.2) (by simp) ?_
      simp [h1]
    · simp [h1]
  by_cases k3 : v.1 = 3
  · simp [k3]
  by_cases k4 : v.1 = 4
  · simp [k4]
    by_cases hi : v.2.1 = 0
    · simp [hi]
      by_cases h1 : v.2.2.1 = 0
      · refine callW_ms [.ro] ?_
        simp
        refine callX_of ((w42 _ hv.1).t h1) (by simp) ?_
        simp
        refine callW_ms [.ro] ?_
        simp
        refine callX_of (w42 _ hv.2) (by simp) ?_
        simp [h1]
      · refine callW_ms [.ro] ?_
        simp
        refine callX_of ((w42 _ hv.1).f h1) (by simp) ?_
        simp [h1]
    · by_cases hi1 : v.2.1 = 1
      · simp [hi, hi1]
        by_cases h1 : v.2.2.1 = 0
        · refine callW_ms [.ro] ?_
          simp
          refine callX_of ((w42 _ hv.1).t h1) (by simp) ?_
          simp
          refine callW_ms [.ro] ?_
          simp
          refine callX_of (w42 _ hv.2) (by simp) ?_
          simp [h1]
        · refine callW_ms [.ro] ?_
          simp
          refine callX_of ((w42 _ hv.1).f h1) (by simp) ?_
          simp [h1]
      · simp [hi, hi1]
  simp [k1, k2, k3, k4]
theorem w19 (v : ValP) : Contract Try.prog false 19 [.ro] [valV v] [.b (decide (ValOkP v))] [] := by
  refine mk_contract [] Try.func19 (c := Try.f19.body.get!) (by kernel_rfl) k19 r19 (of_decide_eq_true rfl) fun _ => ?_
  unfold c19; unfold valV ValOkP; simp
  by_cases k1 : v.1 = 1
  · simp [k1]
    by_cases h1 : v.2.2.1 = 0
    · refine callW_ms [.ro] ?_
      simp
      refine callX_of ((w43 _).t h1) (by simp) ?_
      simp
      refine callW_ms [.ro] ?_
      simp
      refine callX_of (w43 v.2.2.2) (by simp) ?_
      simp [h1]
    · refine callW_ms [.ro] ?_
      simp
      refine callX_of ((w43 _).f h1) (by simp) ?_
      simp [h1]
  by_cases k2 : v.1 = 2
  · simp [k2]
    by_cases h1 : v.2.1 = 0
    · simp [h1]
      refine callW_ms [.ro] ?_
      simp
      refine callX_of (w43 v.2.2.2) (by simp) ?_
      simp [h1]
    · simp [h1]
  by_cases k3 : v.1 = 3
  · simp [k3]
  by_cases k4 : v.1 = 4
  · simp [k4]
    by_cases hi : 0 ≤ v.2.1 ∧ v.2.1 ≤ 1
    · have hi2 : v.2.1 = 0 ∨ v.2.1 = 1 := by omega
      refine callW_ms [.ro, .ro, .ro] ?_
      simp
      refine callX_of ((w44 v.2.1 0 1).t hi) (by simp) ?_
      simp
      by_cases h1 : v.2.2.1 = 0
      · refine callW_ms [.ro] ?_
        simp
        refine callX_of ((w43 _).t h1) (by simp) ?_
        simp
        refine callW_ms [.ro] ?_
        simp
        refine callX_of (w43 v.2.2.2) (by simp) ?_
        simp [h1, hi2]
      · refine callW_ms [.ro] ?_
        simp
        refine callX_of ((w43 _).f h1) (by simp) ?_
        simp [h1]
    · have hi2 : ¬ (v.2.1 = 0 ∨ v.2.1 = 1) := by omega
      refine callW_ms [.ro, .ro, .ro] ?_
      simp
      refine callX_of ((w44 v.2.1 0 1).f hi) (by simp) ?_
      simp [hi2]
  simp [k1, k2, k3, k4]
theorem w4 (a : ValP) (ha : valOkF a) : Contract Try.prog false 4 [.ro] [valV a] [.b true] [] := by
  refine mk_contract [] Try.func4 (c := Try.f4.body.get!) (by kernel_rfl) k4 r4 (of_decide_eq_true rfl) fun _ => ?_
  unfold c4; unfold valV; simp
  refine callW_ms [.ro] ?_
  simp [valV]
  refine callX_of (w16 a) (by simp) ?_
  simp [valV]
  refine callW_ms [.ro] ?_
  simp [valV]
  refine callX_of (w18 a ha) (by simp) ?_
  simp
  refine callW_ms [.ro] ?_
  simp [valV]
  refine callX_of (w16 a) (by simp) ?_
  simp [valV]
  refine callW_ms [.ro] ?_
  simp [valV]
  refine callX_of (w19 a) (by simp) ?_
  simp
def zeroV (k : Int) : ValP := if 1 ≤ k ∧ k ≤ 4 then (k, 0, 0, 0) else (0, 0, 0, 0)
theorem zeroV_ok (k : Int) : valOkF (zeroV k) := by unfold zeroV; split <;> exact ⟨fOk_zero, fOk_zero⟩
theorem w20 (k : Int) : Contract Try.prog false 20 [.ro] [.i .i64 k] [valV (zeroV k)] [] := by
  refine mk_contract [] Try.func20 (c := Try.f20.body.get!) (by kernel_rfl) k20 r20 (of_decide_eq_true rfl) fun _ => ?_
  unfold c20; unfold valV zeroV; simp
  by_cases h : 1 ≤ k ∧ k ≤ 4
  · refine callW_ms [.ro, .ro, .ro] ?_
    simp
    refine callX_of ((w45 k 1 4).t h) (by simp) ?_
    simp [h]
  · refine callW_ms [.ro, .ro, .ro] ?_
    simp
    refine callX_of ((w45 k 1 4).f h) (by simp) ?_
    simp [h]
theorem w21 (k : Int) : Contract Try.prog false 21 [.ro] [.i .i64 k] [valV (zeroV k)] [] := by
  refine mk_contract [] Try.func21 (c := Try.f21.body.get!) (by kernel_rfl) k21 r21 (of_decide_eq_true rfl) fun _ => ?_
  unfold c21; unfold valV zeroV; simp
  by_cases h : 1 ≤ k ∧ k ≤ 4
  · refine callW_ms [.ro] ?_
    simp
    refine callX_of ((w46 k).t h) (by simp) ?_
    simp [h]
  · refine callW_ms [.ro] ?_
    simp
    refine callX_of ((w46 k).f h) (by simp) ?_
    simp [h]
theorem w5 (k : Int) : Contract Try.prog false 5 [.ro] [.i .i64 k] [.b true] [] := by
  refine mk_contract [] Try.func5 (c := Try.f5.body.get!) (by kernel_rfl) k5 r5 (of_decide_eq_true rfl) fun _ => ?_
  unfold c5; simp
  refine callW_ms [.ro] ?_
  simp
  refine callX_of (w20 k) (by simp) ?_
  simp [valV]
  refine callW_ms [.ro] ?_
  simp
  refine callX_of (w21 k) (by simp) ?_
  simp [valV]
  refine callW_ms [.ro, .ro] ?_
  simp [valV]
  refine callX_of (w22 (zeroV k) (zeroV k) (zeroV_ok k) (zeroV_ok k)) (by simp) ?_
  simp
def pairV (a b : ValP) : ValP × Bool := if ValOkP a ∧ ValOkP b ∧ a.1 = 2 ∧ b.1 = 2 then ((3, 0, a.2.2.1, b.2.2.1), true) else ((0, 0, 0, 0), false)
theorem pairV_ok {a b : ValP} (ha : valOkF a) (hb : valOkF b) : valOkF (pairV a b).1 := by
  unfold pairV; split
  · exact ⟨ha.1, hb.1⟩
  · exact ⟨fOk_zero, fOk_zero⟩
theorem w23 (a b : ValP) (ha : valOkF a) (hb : valOkF b) : Contract Try.prog false 23 [.ro, .ro] [valV a, valV b] [valV (pairV a b).1, .b (pairV a b).2] [] := by
  refine mk_contract [] Try.func23 (c := Try.f23.body.get!) (by kernel_rfl) k23 r23 (of_decide_eq_true rfl) fun _ => ?_
  unfold c23; unfold valV pairV; simp
  by_cases h1 : ValOkP a
  · refine callW_ms [.ro] ?_
    simp [valV]
    refine callX_of ((w18 a ha).t h1) (by simp) ?_
    simp
    by_cases h2 : ValOkP b
    · refine callW_ms [.ro] ?_
      simp [valV]
      refine callX_of ((w18 b hb).t h2) (by simp) ?_
      simp
      by_cases h3 : a.1 = 2
      · by_cases h4 : b.1 = 2
        · simp [h1, h2, h3, h4]
        · simp [h1, h2, h3, h4]
      · simp [h1, h2, h3]
    · refine callW_ms [.ro] ?_
      simp [valV]
      refine callX_of ((w18 b hb).f h2) (by simp) ?_
      simp [h2]
  · refine callW_ms [.ro] ?_
    simp [valV]
    refine callX_of ((w18 a ha).f h1) (by simp) ?_
    simp [h1]
theorem w24 (a b : ValP) : Contract Try.prog false 24 [.ro, .ro] [valV a, valV b] [valV (pairV a b).1, .b (pairV a b).2] [] := by
  refine mk_contract [] Try.func24 (c := Try.f24.body.get!) (by kernel_rfl) k24 r24 (of_decide_eq_true rfl) fun _ => ?_
  unfold c24; unfold valV pairV; simp
  by_cases h1 : ValOkP a
  · refine callW_ms [.ro] ?_
    simp [valV]
    refine callX_of ((w19 a).t h1) (by simp) ?_
    simp
    by_cases h2 : ValOkP b
    · refine callW_ms [.ro] ?_
      simp [valV]
      refine callX_of ((w19 b).t h2) (by simp) ?_
      simp
      by_cases h3 : a.1 = 2
      · by_cases h4 : b.1 = 2
        · simp [h1, h2, h3, h4]
        · simp [h1, h2, h3, h4]
      · simp [h1, h2, h3]
    · refine callW_ms [.ro] ?_
      simp [valV]
      refine callX_of ((w19 b).f h2) (by simp) ?_
      simp [h2]
  · refine callW_ms [.ro] ?_
    simp [valV]
    refine callX_of ((w19 a).f h1) (by simp) ?_
    simp [h1]
theorem w6 (a b : ValP) (ha : valOkF a) (hb : valOkF b) : Contract Try.prog false 6 [.ro, .ro] [valV a, valV b] [.b true] [] := by
  refine mk_contract [] Try.func6 (c := Try.f6.body.get!) (by kernel_rfl) k6 r6 (of_decide_eq_true rfl) fun _ => ?_
  unfold c6; unfold valV; simp
  refine callW_ms [.ro] ?_
  simp [valV]
  refine callX_of (w16 a) (by simp) ?_
  simp [valV]
  refine callW_ms [.ro] ?_
  simp [valV]
  refine callX_of (w16 b) (by simp) ?_
  simp [valV]
  refine callW_ms [.ro, .ro] ?_
  simp [valV]
  refine callX_of (w23 a b ha hb) (by simp) ?_
  simp [valV]
  refine callW_ms [.ro] ?_
  simp [valV]
  refine callX_of (w16 a) (by simp) ?_
  simp [valV]
  refine callW_ms [.ro] ?_
  simp [valV]
  refine callX_of (w16 b) (by simp) ?_
  simp [valV]
  refine callW_ms [.ro, .ro] ?_
  simp [valV]
  refine callX_of (w24 a b) (by simp) ?_
  simp [valV]
  refine callW_ms [.ro, .ro] ?_
  simp [valV]
  refine callX_of (w22 (pairV a b).1 (pairV a b).1 (pairV_ok ha hb) (pairV_ok ha hb)) (by simp) ?_
  simp
end Go.Proofs.YtpoalnlkhlchbaaT
