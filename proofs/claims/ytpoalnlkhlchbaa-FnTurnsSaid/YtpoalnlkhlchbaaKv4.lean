/- Values: what is done with two of them, joined; what is done with one. -/
import Derived.Test.YtpoalnlkhlchbaaKv3
namespace Go.Proofs.YtpoalnlkhlchbaaT
set_option linter.unusedVariables false
set_option linter.unusedSimpArgs false
open Go

/- spec.l1RealOp -/
def c56 : TCode := (.seq (.ops [⟨(some 6), 8, .box 4 (.c (.ag [(.i .i64 0), (.i .i64 0), (.f 0), (.f 0)])), none, []⟩, ⟨(some 7), 9, .mv (.c (.i .i64 0)), none, []⟩])
  (.seq (.ops [⟨(some 9), 11, .build [(.i .i64 0), (.i .i64 0), (.f 0), (.f 0)] [(0, 1, (.c (.i .i64 2)))], none, []⟩, ⟨(some 8), 10, .box 4 (.c (.ag [(.i .i64 0), (.i .i64 0), (.f 0), (.f 0)])), none, []⟩, ⟨none, 1001002, .store 4 (.t 8) (.t 9), none, []⟩])
  (.seq (.seq (.ops [⟨(some 10), 12, .mv (.t 0), none, []⟩])
  (.block 0 (.seq (.ops [⟨(some 13), 15, .bin .eql (.t 10) (.c (.i .i64 1)), none, []⟩, ⟨(some 12), 14, .mv (.t 13), none, []⟩])
  (.cond (.t 12)
  (.ops [⟨(some 14), 16, .mv (.t 1), none, []⟩, ⟨(some 15), 17, .mv (.t 2), none, []⟩, ⟨(some 16), 18, .bin .add (.t 14) (.t 15), none, []⟩, ⟨(some 17), 19, .faddr 2 1 (.t 8), none, []⟩, ⟨none, 1005004, .store 1 (.t 17) (.t 16), none, []⟩])
  (.seq (.ops [⟨(some 19), 21, .bin .eql (.t 10) (.c (.i .i64 2)), none, []⟩, ⟨(some 18), 20, .mv (.t 19), none, []⟩])
  (.cond (.t 18)
  (.ops [⟨(some 20), 22, .mv (.t 1), none, []⟩, ⟨(some 21), 23, .mv (.t 2), none, []⟩, ⟨(some 22), 24, .bin .sub (.t 20) (.t 21), none, []⟩, ⟨(some 23), 25, .faddr 2 1 (.t 8), none, []⟩, ⟨none, 1007004, .store 1 (.t 23) (.t 22), none, []⟩])
  (.seq (.ops [⟨(some 25), 27, .bin .eql (.t 10) (.c (.i .i64 3)), none, []⟩, ⟨(some 24), 26, .mv (.t 25), none, []⟩])
  (.cond (.t 24)
  (.ops [⟨(some 26), 28, .mv (.t 1), none, []⟩, ⟨(some 27), 29, .mv (.t 2), none, []⟩, ⟨(some 28), 30, .bin .mul (.t 26) (.t 27), none, []⟩, ⟨(some 29), 31, .faddr 2 1 (.t 8), none, []⟩, ⟨none, 1009004, .store 1 (.t 29) (.t 28), none, []⟩])
  (.seq (.ops [⟨(some 31), 33, .bin .eql (.t 10) (.c (.i .i64 4)), none, []⟩, ⟨(some 30), 32, .mv (.t 31), none, []⟩])
  (.cond (.t 30)
  (.ops [⟨(some 32), 34, .mv (.t 1), none, []⟩, ⟨(some 33), 35, .mv (.t 2), none, []⟩, ⟨(some 34), 36, .bin .quo (.t 32) (.t 33), none, []⟩, ⟨(some 35), 37, .faddr 2 1 (.t 8), none, []⟩, ⟨none, 1011004, .store 1 (.t 35) (.t 34), none, []⟩])
  (.seq (.ops [⟨(some 37), 39, .bin .eql (.t 10) (.c (.i .i64 6)), none, []⟩, ⟨(some 36), 38, .mv (.t 37), none, []⟩])
  (.cond (.t 36)
  (.seq (.ops [⟨(some 38), 40, .mv (.t 1), none, []⟩, ⟨(some 39), 41, .mv (.t 2), none, []⟩, ⟨(some 40), 42, .bin .lss (.t 38) (.t 39), none, []⟩, ⟨(some 41), 43, .call 52 [((.t 40), 0)], none, []⟩, ⟨none, 1013004, .store 4 (.t 6) (.t 41), none, []⟩, ⟨(some 7), 9, .mv (.c (.i .i64 0)), none, []⟩])
  .ret)
  (.seq (.ops [⟨(some 43), 45, .bin .eql (.t 10) (.c (.i .i64 7)), none, []⟩, ⟨(some 42), 44, .mv (.t 43), none, []⟩])
  (.cond (.t 42)
  (.seq (.ops [⟨(some 44), 46, .mv (.t 1), none, []⟩, ⟨(some 45), 47, .mv (.t 2), none, []⟩, ⟨(some 46), 48, .bin .eql (.t 44) (.t 45), none, []⟩, ⟨(some 47), 49, .call 52 [((.t 46), 0)], none, []⟩, ⟨none, 1015004, .store 4 (.t 6) (.t 47), none, []⟩, ⟨(some 7), 9, .mv (.c (.i .i64 0)), none, []⟩])
  .ret)
  (.seq (.ops [⟨(some 11), 13, .build [(.i .i64 0), (.i .i64 0), (.f 0), (.f 0)] [], none, []⟩, ⟨none, 1003001, .store 4 (.t 6) (.t 11), none, []⟩, ⟨(some 7), 9, .mv (.c (.i .i64 1)), none, []⟩])
  .ret)))))))))))))))
  (.seq (.ops [⟨(some 48), 50, .load true 4 (.t 8), none, []⟩, ⟨none, 1016001, .store 4 (.t 6) (.t 48), none, []⟩, ⟨(some 7), 9, .mv (.c (.i .i64 0)), none, []⟩])
  .ret))))
theorem k56 : compCode Try.prog Try.f56.ntmps Try.f56.body.get! = some c56 := by kernel_rfl
theorem r56 : resTmps Try.prog Try.f56.results.toList = some [.cell 6 true 4, .tmp 7] := by kernel_rfl
/- impl.opReal -/
def c59 : TCode := (.seq (.ops [⟨(some 6), 8, .box 4 (.c (.ag [(.i .i64 0), (.i .i64 0), (.f 0), (.f 0)])), none, []⟩, ⟨(some 7), 9, .mv (.c (.i .i64 0)), none, []⟩])
  (.seq (.seq (.ops [⟨(some 8), 10, .mv (.t 0), none, []⟩])
  (.block 0 (.seq (.ops [⟨(some 10), 12, .bin .eql (.t 8) (.c (.i .i64 1)), none, []⟩, ⟨(some 9), 11, .mv (.t 10), none, []⟩])
  (.cond (.t 9)
  (.seq (.ops [⟨(some 11), 13, .mv (.t 1), none, []⟩, ⟨(some 12), 14, .mv (.t 2), none, []⟩, ⟨(some 13), 15, .bin .add (.t 11) (.t 12), none, []⟩, ⟨(some 14), 16, .call 53 [((.t 13), 0)], none, []⟩, ⟨(some 15), 17, .ext 0 (.t 14), none, []⟩, ⟨(some 16), 18, .ext 1 (.t 14), none, []⟩, ⟨none, 1003006, .store 4 (.t 6) (.t 15), none, []⟩, ⟨(some 7), 9, .mv (.t 16), none, []⟩])
  .ret)
  (.seq (.ops [⟨(some 18), 20, .bin .eql (.t 8) (.c (.i .i64 2)), none, []⟩, ⟨(some 17), 19, .mv (.t 18), none, []⟩])
  (.cond (.t 17)
  (.seq (.ops [⟨(some 19), 21, .mv (.t 1), none, []⟩, ⟨(some 20), 22, .mv (.t 2), none, []⟩, ⟨(some 21), 23, .bin .sub (.t 19) (.t 20), none, []⟩, ⟨(some 22), 24, .call 53 [((.t 21), 0)], none, []⟩, ⟨(some 23), 25, .ext 0 (.t 22), none, []⟩, ⟨(some 24), 26, .ext 1 (.t 22), none, []⟩, ⟨none, 1005006, .store 4 (.t 6) (.t 23), none, []⟩, ⟨(some 7), 9, .mv (.t 24), none, []⟩])
  .ret)
  (.seq (.ops [⟨(some 26), 28, .bin .eql (.t 8) (.c (.i .i64 3)), none, []⟩, ⟨(some 25), 27, .mv (.t 26), none, []⟩])
  (.cond (.t 25)
  (.seq (.ops [⟨(some 27), 29, .mv (.t 1), none, []⟩, ⟨(some 28), 30, .mv (.t 2), none, []⟩, ⟨(some 29), 31, .bin .mul (.t 27) (.t 28), none, []⟩, ⟨(some 30), 32, .call 53 [((.t 29), 0)], none, []⟩, ⟨(some 31), 33, .ext 0 (.t 30), none, []⟩, ⟨(some 32), 34, .ext 1 (.t 30), none, []⟩, ⟨none, 1007006, .store 4 (.t 6) (.t 31), none, []⟩, ⟨(some 7), 9, .mv (.t 32), none, []⟩])
  .ret)
  (.seq (.ops [⟨(some 34), 36, .bin .eql (.t 8) (.c (.i .i64 4)), none, []⟩, ⟨(some 33), 35, .mv (.t 34), none, []⟩])
  (.cond (.t 33)
  (.seq (.ops [⟨(some 35), 37, .mv (.t 1), none, []⟩, ⟨(some 36), 38, .mv (.t 2), none, []⟩, ⟨(some 37), 39, .bin .quo (.t 35) (.t 36), none, []⟩, ⟨(some 38), 40, .call 53 [((.t 37), 0)], none, []⟩, ⟨(some 39), 41, .ext 0 (.t 38), none, []⟩, ⟨(some 40), 42, .ext 1 (.t 38), none, []⟩, ⟨none, 1009006, .store 4 (.t 6) (.t 39), none, []⟩, ⟨(some 7), 9, .mv (.t 40), none, []⟩])
  .ret)
  (.seq (.ops [⟨(some 42), 44, .bin .eql (.t 8) (.c (.i .i64 6)), none, []⟩, ⟨(some 41), 43, .mv (.t 42), none, []⟩])
  (.cond (.t 41)
  (.seq (.ops [⟨(some 43), 45, .mv (.t 1), none, []⟩, ⟨(some 44), 46, .mv (.t 2), none, []⟩, ⟨(some 45), 47, .bin .lss (.t 43) (.t 44), none, []⟩, ⟨(some 46), 48, .call 54 [((.t 45), 0)], none, []⟩, ⟨(some 47), 49, .ext 0 (.t 46), none, []⟩, ⟨(some 48), 50, .ext 1 (.t 46), none, []⟩, ⟨none, 1011006, .store 4 (.t 6) (.t 47), none, []⟩, ⟨(some 7), 9, .mv (.t 48), none, []⟩])
  .ret)
  (.seq (.ops [⟨(some 50), 52, .bin .eql (.t 8) (.c (.i .i64 7)), none, []⟩, ⟨(some 49), 51, .mv (.t 50), none, []⟩])
  (.cond (.t 49)
  (.seq (.ops [⟨(some 51), 53, .mv (.t 1), none, []⟩, ⟨(some 52), 54, .mv (.t 2), none, []⟩, ⟨(some 53), 55, .bin .eql (.t 51) (.t 52), none, []⟩, ⟨(some 54), 56, .call 54 [((.t 53), 0)], none, []⟩, ⟨(some 55), 57, .ext 0 (.t 54), none, []⟩, ⟨(some 56), 58, .ext 1 (.t 54), none, []⟩, ⟨none, 1013006, .store 4 (.t 6) (.t 55), none, []⟩, ⟨(some 7), 9, .mv (.t 56), none, []⟩])
  .ret)
  .skip))))))))))))))
  (.seq (.ops [⟨(some 57), 59, .build [(.i .i64 0), (.i .i64 0), (.f 0), (.f 0)] [], none, []⟩, ⟨none, 1014001, .store 4 (.t 6) (.t 57), none, []⟩, ⟨(some 7), 9, .mv (.c (.i .i64 1)), none, []⟩])
  .ret)))
theorem k59 : compCode Try.prog Try.f59.ntmps Try.f59.body.get! = some c59 := by kernel_rfl
theorem r59 : resTmps Try.prog Try.f59.results.toList = some [.cell 6 true 4, .tmp 7] := by kernel_rfl
/- spec.l1PairOp -/
def c57 : TCode := (.seq (.ops [⟨(some 4), 6, .box 4 (.t 1), none, []⟩, ⟨(some 5), 7, .box 4 (.t 2), none, []⟩, ⟨(some 6), 8, .box 4 (.c (.ag [(.i .i64 0), (.i .i64 0), (.f 0), (.f 0)])), none, []⟩, ⟨(some 7), 9, .mv (.c (.i .i64 0)), none, []⟩])
  (.seq (.ops [⟨(some 13), 15, .build [(.i .i64 0), (.i .i64 0), (.f 0), (.f 0)] [(0, 1, (.c (.i .i64 3)))], none, []⟩, ⟨(some 8), 10, .box 4 (.c (.ag [(.i .i64 0), (.i .i64 0), (.f 0), (.f 0)])), none, []⟩, ⟨none, 1001002, .store 4 (.t 8) (.t 13), none, []⟩])
  (.seq (.seq (.ops [⟨(some 14), 16, .mv (.t 0), none, []⟩])
  (.block 0 (.seq (.ops [⟨(some 17), 19, .bin .eql (.t 14) (.c (.i .i64 1)), none, []⟩, ⟨(some 16), 18, .mv (.t 17), none, []⟩])
  (.cond (.t 16)
  (.seq (.ops [⟨(some 18), 20, .faddr 2 1 (.t 4), none, []⟩, ⟨(some 19), 21, .load false 1 (.t 18), none, []⟩, ⟨(some 20), 22, .faddr 2 1 (.t 5), none, []⟩, ⟨(some 21), 23, .load false 1 (.t 20), none, []⟩, ⟨(some 22), 24, .bin .add (.t 19) (.t 21), none, []⟩, ⟨(some 23), 25, .faddr 2 1 (.t 8), none, []⟩, ⟨none, 1005006, .store 1 (.t 23) (.t 22), none, []⟩])
  (.ops [⟨(some 24), 26, .faddr 3 1 (.t 4), none, []⟩, ⟨(some 25), 27, .load false 1 (.t 24), none, []⟩, ⟨(some 26), 28, .faddr 3 1 (.t 5), none, []⟩, ⟨(some 27), 29, .load false 1 (.t 26), none, []⟩, ⟨(some 28), 30, .bin .add (.t 25) (.t 27), none, []⟩, ⟨(some 29), 31, .faddr 3 1 (.t 8), none, []⟩, ⟨none, 1006006, .store 1 (.t 29) (.t 28), none, []⟩]))
  (.seq (.ops [⟨(some 31), 33, .bin .eql (.t 14) (.c (.i .i64 2)), none, []⟩, ⟨(some 30), 32, .mv (.t 31), none, []⟩])
  (.cond (.t 30)
  (.seq (.ops [⟨(some 32), 34, .faddr 2 1 (.t 4), none, []⟩, ⟨(some 33), 35, .load false 1 (.t 32), none, []⟩, ⟨(some 34), 36, .faddr 2 1 (.t 5), none, []⟩, ⟨(some 35), 37, .load false 1 (.t 34), none, []⟩, ⟨(some 36), 38, .bin .sub (.t 33) (.t 35), none, []⟩, ⟨(some 37), 39, .faddr 2 1 (.t 8), none, []⟩, ⟨none, 1008006, .store 1 (.t 37) (.t 36), none, []⟩])
  (.ops [⟨(some 38), 40, .faddr 3 1 (.t 4), none, []⟩, ⟨(some 39), 41, .load false 1 (.t 38), none, []⟩, ⟨(some 40), 42, .faddr 3 1 (.t 5), none, []⟩, ⟨(some 41), 43, .load false 1 (.t 40), none, []⟩, ⟨(some 42), 44, .bin .sub (.t 39) (.t 41), none, []⟩, ⟨(some 43), 45, .faddr 3 1 (.t 8), none, []⟩, ⟨none, 1009006, .store 1 (.t 43) (.t 42), none, []⟩]))
  (.seq (.ops [⟨(some 45), 47, .bin .eql (.t 14) (.c (.i .i64 3)), none, []⟩, ⟨(some 44), 46, .mv (.t 45), none, []⟩])
  (.cond (.t 44)
  (.seq (.ops [⟨(some 46), 48, .faddr 2 1 (.t 4), none, []⟩, ⟨(some 47), 49, .load false 1 (.t 46), none, []⟩, ⟨(some 48), 50, .faddr 2 1 (.t 5), none, []⟩, ⟨(some 49), 51, .load false 1 (.t 48), none, []⟩, ⟨(some 50), 52, .bin .mul (.t 47) (.t 49), none, []⟩, ⟨(some 9), 11, .mv (.t 50), none, []⟩])
  (.seq (.ops [⟨(some 51), 53, .faddr 3 1 (.t 4), none, []⟩, ⟨(some 52), 54, .load false 1 (.t 51), none, []⟩, ⟨(some 53), 55, .faddr 3 1 (.t 5), none, []⟩, ⟨(some 54), 56, .load false 1 (.t 53), none, []⟩, ⟨(some 55), 57, .bin .mul (.t 52) (.t 54), none, []⟩, ⟨(some 10), 12, .mv (.t 55), none, []⟩])
  (.seq (.ops [⟨(some 56), 58, .mv (.t 9), none, []⟩, ⟨(some 57), 59, .mv (.t 10), none, []⟩, ⟨(some 58), 60, .bin .sub (.t 56) (.t 57), none, []⟩, ⟨(some 59), 61, .faddr 2 1 (.t 8), none, []⟩, ⟨none, 1013004, .store 1 (.t 59) (.t 58), none, []⟩])
  (.seq (.ops [⟨(some 60), 62, .faddr 2 1 (.t 4), none, []⟩, ⟨(some 61), 63, .load false 1 (.t 60), none, []⟩, ⟨(some 62), 64, .faddr 3 1 (.t 5), none, []⟩, ⟨(some 63), 65, .load false 1 (.t 62), none, []⟩, ⟨(some 64), 66, .bin .mul (.t 61) (.t 63), none, []⟩, ⟨(some 11), 13, .mv (.t 64), none, []⟩])
  (.seq (.ops [⟨(some 65), 67, .faddr 3 1 (.t 4), none, []⟩, ⟨(some 66), 68, .load false 1 (.t 65), none, []⟩, ⟨(some 67), 69, .faddr 2 1 (.t 5), none, []⟩, ⟨(some 68), 70, .load false 1 (.t 67), none, []⟩, ⟨(some 69), 71, .bin .mul (.t 66) (.t 68), none, []⟩, ⟨(some 12), 14, .mv (.t 69), none, []⟩])
  (.ops [⟨(some 70), 72, .mv (.t 11), none, []⟩, ⟨(some 71), 73, .mv (.t 12), none, []⟩, ⟨(some 72), 74, .bin .add (.t 70) (.t 71), none, []⟩, ⟨(some 73), 75, .faddr 3 1 (.t 8), none, []⟩, ⟨none, 1016004, .store 1 (.t 73) (.t 72), none, []⟩]))))))
  (.seq (.ops [⟨(some 75), 77, .bin .eql (.t 14) (.c (.i .i64 7)), none, []⟩, ⟨(some 74), 76, .mv (.t 75), none, []⟩])
  (.cond (.t 74)
  (.seq (.ops [⟨(some 76), 78, .faddr 2 1 (.t 4), none, []⟩, ⟨(some 77), 79, .load false 1 (.t 76), none, []⟩, ⟨(some 78), 80, .faddr 2 1 (.t 5), none, []⟩, ⟨(some 79), 81, .load false 1 (.t 78), none, []⟩, ⟨(some 80), 82, .bin .eql (.t 77) (.t 79), none, []⟩, ⟨(some 81), 83, .mv (.t 80), none, []⟩, ⟨(some 82), 84, .faddr 3 1 (.t 4), (some (81, true)), []⟩, ⟨(some 83), 85, .load false 1 (.t 82), (some (81, true)), []⟩, ⟨(some 84), 86, .faddr 3 1 (.t 5), (some (81, true)), []⟩, ⟨(some 85), 87, .load false 1 (.t 84), (some (81, true)), []⟩, ⟨(some 86), 88, .bin .eql (.t 83) (.t 85), (some (81, true)), []⟩, ⟨(some 87), 89, .pick (.t 81) (.t 86) (.c (.b false)), none, []⟩, ⟨(some 88), 90, .call 52 [((.t 87), 0)], none, []⟩, ⟨none, 1018013, .store 4 (.t 6) (.t 88), none, []⟩, ⟨(some 7), 9, .mv (.c (.i .i64 0)), none, []⟩])
  .ret)
  (.seq (.ops [⟨(some 15), 17, .build [(.i .i64 0), (.i .i64 0), (.f 0), (.f 0)] [], none, []⟩, ⟨none, 1003001, .store 4 (.t 6) (.t 15), none, []⟩, ⟨(some 7), 9, .mv (.c (.i .i64 1)), none, []⟩])
  .ret)))))))))))
  (.seq (.ops [⟨(some 89), 91, .load true 4 (.t 8), none, []⟩, ⟨none, 1019001, .store 4 (.t 6) (.t 89), none, []⟩, ⟨(some 7), 9, .mv (.c (.i .i64 0)), none, []⟩])
  .ret))))
theorem k57 : compCode Try.prog Try.f57.ntmps Try.f57.body.get! = some c57 := by kernel_rfl
theorem r57 : resTmps Try.prog Try.f57.results.toList = some [.cell 6 true 4, .tmp 7] := by kernel_rfl
/- impl.opPair -/
def c60 : TCode := (.seq (.ops [⟨(some 4), 6, .box 4 (.t 1), none, []⟩, ⟨(some 5), 7, .box 4 (.t 2), none, []⟩, ⟨(some 6), 8, .box 4 (.c (.ag [(.i .i64 0), (.i .i64 0), (.f 0), (.f 0)])), none, []⟩, ⟨(some 7), 9, .mv (.c (.i .i64 0)), none, []⟩])
  (.seq (.seq (.ops [⟨(some 8), 10, .mv (.t 0), none, []⟩])
  (.block 0 (.seq (.ops [⟨(some 10), 12, .bin .eql (.t 8) (.c (.i .i64 1)), none, []⟩, ⟨(some 9), 11, .mv (.t 10), none, []⟩])
  (.cond (.t 9)
  (.seq (.ops [⟨(some 11), 13, .faddr 2 1 (.t 4), none, []⟩, ⟨(some 12), 14, .load false 1 (.t 11), none, []⟩, ⟨(some 13), 15, .faddr 2 1 (.t 5), none, []⟩, ⟨(some 14), 16, .load false 1 (.t 13), none, []⟩, ⟨(some 15), 17, .bin .add (.t 12) (.t 14), none, []⟩, ⟨(some 16), 18, .faddr 3 1 (.t 4), none, []⟩, ⟨(some 17), 19, .load false 1 (.t 16), none, []⟩, ⟨(some 18), 20, .faddr 3 1 (.t 5), none, []⟩, ⟨(some 19), 21, .load false 1 (.t 18), none, []⟩, ⟨(some 20), 22, .bin .add (.t 17) (.t 19), none, []⟩, ⟨(some 21), 23, .build [(.i .i64 0), (.i .i64 0), (.f 0), (.f 0)] [(0, 1, (.c (.i .i64 3))), (2, 1, (.t 15)), (3, 1, (.t 20))], none, []⟩, ⟨none, 1003011, .store 4 (.t 6) (.t 21), none, []⟩, ⟨(some 7), 9, .mv (.c (.i .i64 0)), none, []⟩])
  .ret)
  (.seq (.ops [⟨(some 23), 25, .bin .eql (.t 8) (.c (.i .i64 2)), none, []⟩, ⟨(some 22), 24, .mv (.t 23), none, []⟩])
  (.cond (.t 22)
  (.seq (.ops [⟨(some 24), 26, .faddr 2 1 (.t 4), none, []⟩, ⟨(some 25), 27, .load false 1 (.t 24), none, []⟩, ⟨(some 26), 28, .faddr 2 1 (.t 5), none, []⟩, ⟨(some 27), 29, .load false 1 (.t 26), none, []⟩, ⟨(some 28), 30, .bin .sub (.t 25) (.t 27), none, []⟩, ⟨(some 29), 31, .faddr 3 1 (.t 4), none, []⟩, ⟨(some 30), 32, .load false 1 (.t 29), none, []⟩, ⟨(some 31), 33, .faddr 3 1 (.t 5), none, []⟩, ⟨(some 32), 34, .load false 1 (.t 31), none, []⟩, ⟨(some 33), 35, .bin .sub (.t 30) (.t 32), none, []⟩, ⟨(some 34), 36, .build [(.i .i64 0), (.i .i64 0), (.f 0), (.f 0)] [(0, 1, (.c (.i .i64 3))), (2, 1, (.t 28)), (3, 1, (.t 33))], none, []⟩, ⟨none, 1005011, .store 4 (.t 6) (.t 34), none, []⟩, ⟨(some 7), 9, .mv (.c (.i .i64 0)), none, []⟩])
  .ret)
  (.seq (.ops [⟨(some 36), 38, .bin .eql (.t 8) (.c (.i .i64 3)), none, []⟩, ⟨(some 35), 37, .mv (.t 36), none, []⟩])
  (.cond (.t 35)
  (.seq (.ops [⟨(some 37), 39, .faddr 2 1 (.t 4), none, []⟩, ⟨(some 38), 40, .load false 1 (.t 37), none, []⟩, ⟨(some 39), 41, .faddr 2 1 (.t 5), none, []⟩, ⟨(some 40), 42, .load false 1 (.t 39), none, []⟩, ⟨(some 41), 43, .bin .mul (.t 38) (.t 40), none, []⟩, ⟨(some 42), 44, .faddr 3 1 (.t 4), none, []⟩, ⟨(some 43), 45, .load false 1 (.t 42), none, []⟩, ⟨(some 44), 46, .faddr 3 1 (.t 5), none, []⟩, ⟨(some 45), 47, .load false 1 (.t 44), none, []⟩, ⟨(some 46), 48, .bin .mul (.t 43) (.t 45), none, []⟩, ⟨(some 47), 49, .bin .sub (.t 41) (.t 46), none, []⟩, ⟨(some 48), 50, .faddr 2 1 (.t 4), none, []⟩, ⟨(some 49), 51, .load false 1 (.t 48), none, []⟩, ⟨(some 50), 52, .faddr 3 1 (.t 5), none, []⟩, ⟨(some 51), 53, .load false 1 (.t 50), none, []⟩, ⟨(some 52), 54, .bin .mul (.t 49) (.t 51), none, []⟩, ⟨(some 53), 55, .faddr 3 1 (.t 4), none, []⟩, ⟨(some 54), 56, .load false 1 (.t 53), none, []⟩, ⟨(some 55), 57, .faddr 2 1 (.t 5), none, []⟩, ⟨(some 56), 58, .load false 1 (.t 55), none, []⟩, ⟨(some 57), 59, .bin .mul (.t 54) (.t 56), none, []⟩, ⟨(some 58), 60, .bin .add (.t 52) (.t 57), none, []⟩, ⟨(some 59), 61, .build [(.i .i64 0), (.i .i64 0), (.f 0), (.f 0)] [(0, 1, (.c (.i .i64 3))), (2, 1, (.t 47)), (3, 1, (.t 58))], none, []⟩, ⟨none, 1007023, .store 4 (.t 6) (.t 59), none, []⟩, ⟨(some 7), 9, .mv (.c (.i .i64 0)), none, []⟩])
  .ret)
  (.seq (.ops [⟨(some 61), 63, .bin .eql (.t 8) (.c (.i .i64 7)), none, []⟩, ⟨(some 60), 62, .mv (.t 61), none, []⟩])
  (.cond (.t 60)
  (.seq (.ops [⟨(some 62), 64, .faddr 2 1 (.t 4), none, []⟩, ⟨(some 63), 65, .load false 1 (.t 62), none, []⟩, ⟨(some 64), 66, .faddr 2 1 (.t 5), none, []⟩, ⟨(some 65), 67, .load false 1 (.t 64), none, []⟩, ⟨(some 66), 68, .bin .eql (.t 63) (.t 65), none, []⟩, ⟨(some 67), 69, .mv (.t 66), none, []⟩, ⟨(some 68), 70, .faddr 3 1 (.t 4), (some (67, true)), []⟩, ⟨(some 69), 71, .load false 1 (.t 68), (some (67, true)), []⟩, ⟨(some 70), 72, .faddr 3 1 (.t 5), (some (67, true)), []⟩, ⟨(some 71), 73, .load false 1 (.t 70), (some (67, true)), []⟩, ⟨(some 72), 74, .bin .eql (.t 69) (.t 71), (some (67, true)), []⟩, ⟨(some 73), 75, .pick (.t 67) (.t 72) (.c (.b false)), none, []⟩, ⟨(some 74), 76, .call 54 [((.t 73), 0)], none, []⟩, ⟨(some 75), 77, .ext 0 (.t 74), none, []⟩, ⟨(some 76), 78, .ext 1 (.t 74), none, []⟩, ⟨none, 1009015, .store 4 (.t 6) (.t 75), none, []⟩, ⟨(some 7), 9, .mv (.t 76), none, []⟩])
  .ret)
  .skip))))))))))
  (.seq (.ops [⟨(some 77), 79, .build [(.i .i64 0), (.i .i64 0), (.f 0), (.f 0)] [], none, []⟩, ⟨none, 1010001, .store 4 (.t 6) (.t 77), none, []⟩, ⟨(some 7), 9, .mv (.c (.i .i64 1)), none, []⟩])
  .ret)))
theorem k60 : compCode Try.prog Try.f60.ntmps Try.f60.body.get! = some c60 := by kernel_rfl
theorem r60 : resTmps Try.prog Try.f60.results.toList = some [.cell 6 true 4, .tmp 7] := by kernel_rfl
/- impl.opBool -/
def c61 : TCode := (.seq (.ops [⟨(some 6), 8, .box 4 (.c (.ag [(.i .i64 0), (.i .i64 0), (.f 0), (.f 0)])), none, []⟩, ⟨(some 7), 9, .mv (.c (.i .i64 0)), none, []⟩])
  (.seq (.seq (.ops [⟨(some 8), 10, .mv (.t 0), none, []⟩])
  (.block 0 (.seq (.ops [⟨(some 10), 12, .bin .eql (.t 8) (.c (.i .i64 7)), none, []⟩, ⟨(some 9), 11, .mv (.t 10), none, []⟩])
  (.cond (.t 9)
  (.seq (.ops [⟨(some 11), 13, .mv (.t 1), none, []⟩, ⟨(some 12), 14, .mv (.t 2), none, []⟩, ⟨(some 13), 15, .bin .eql (.t 11) (.t 12), none, []⟩, ⟨(some 14), 16, .call 54 [((.t 13), 0)], none, []⟩, ⟨(some 15), 17, .ext 0 (.t 14), none, []⟩, ⟨(some 16), 18, .ext 1 (.t 14), none, []⟩, ⟨none, 1003006, .store 4 (.t 6) (.t 15), none, []⟩, ⟨(some 7), 9, .mv (.t 16), none, []⟩])
  .ret)
  (.seq (.ops [⟨(some 18), 20, .bin .eql (.t 8) (.c (.i .i64 8)), none, []⟩, ⟨(some 17), 19, .mv (.t 18), none, []⟩])
  (.cond (.t 17)
  (.seq (.ops [⟨(some 19), 21, .mv (.t 1), none, []⟩, ⟨(some 20), 22, .mv (.t 2), none, []⟩, ⟨(some 21), 23, .bin .and (.t 19) (.t 20), none, []⟩, ⟨(some 22), 24, .bin .eql (.t 21) (.c (.i .i64 1)), none, []⟩, ⟨(some 23), 25, .call 54 [((.t 22), 0)], none, []⟩, ⟨(some 24), 26, .ext 0 (.t 23), none, []⟩, ⟨(some 25), 27, .ext 1 (.t 23), none, []⟩, ⟨none, 1005007, .store 4 (.t 6) (.t 24), none, []⟩, ⟨(some 7), 9, .mv (.t 25), none, []⟩])
  .ret)
  (.seq (.ops [⟨(some 27), 29, .bin .eql (.t 8) (.c (.i .i64 9)), none, []⟩, ⟨(some 26), 28, .mv (.t 27), none, []⟩])
  (.cond (.t 26)
  (.seq (.ops [⟨(some 28), 30, .mv (.t 1), none, []⟩, ⟨(some 29), 31, .mv (.t 2), none, []⟩, ⟨(some 30), 32, .bin .or (.t 28) (.t 29), none, []⟩, ⟨(some 31), 33, .bin .eql (.t 30) (.c (.i .i64 1)), none, []⟩, ⟨(some 32), 34, .call 54 [((.t 31), 0)], none, []⟩, ⟨(some 33), 35, .ext 0 (.t 32), none, []⟩, ⟨(some 34), 36, .ext 1 (.t 32), none, []⟩, ⟨none, 1007007, .store 4 (.t 6) (.t 33), none, []⟩, ⟨(some 7), 9, .mv (.t 34), none, []⟩])
  .ret)
  .skip))))))))
  (.seq (.ops [⟨(some 35), 37, .build [(.i .i64 0), (.i .i64 0), (.f 0), (.f 0)] [], none, []⟩, ⟨none, 1008001, .store 4 (.t 6) (.t 35), none, []⟩, ⟨(some 7), 9, .mv (.c (.i .i64 1)), none, []⟩])
  .ret)))
theorem k61 : compCode Try.prog Try.f61.ntmps Try.f61.body.get! = some c61 := by kernel_rfl
theorem r61 : resTmps Try.prog Try.f61.results.toList = some [.cell 6 true 4, .tmp 7] := by kernel_rfl
/- spec.ValOp -/
def c29 : TCode := (.seq (.ops [⟨(some 4), 6, .box 4 (.t 1), none, []⟩, ⟨(some 5), 7, .box 4 (.t 2), none, []⟩, ⟨(some 6), 8, .box 4 (.c (.ag [(.i .i64 0), (.i .i64 0), (.f 0), (.f 0)])), none, []⟩, ⟨(some 7), 9, .mv (.c (.i .i64 0)), none, []⟩])
  (.seq (.seq (.ops [⟨(some 8), 10, .load true 4 (.t 4), none, []⟩, ⟨(some 9), 11, .call 18 [((.t 8), 0)], none, []⟩, ⟨(some 10), 12, .un .not (.t 9), none, []⟩, ⟨(some 11), 13, .mv (.t 10), none, []⟩, ⟨(some 12), 14, .load true 4 (.t 5), (some (11, false)), []⟩, ⟨(some 13), 15, .call 18 [((.t 12), 0)], (some (11, false)), []⟩, ⟨(some 14), 16, .un .not (.t 13), (some (11, false)), []⟩, ⟨(some 15), 17, .pick (.t 11) (.c (.b true)) (.t 14), none, []⟩, ⟨(some 16), 18, .mv (.t 15), none, []⟩, ⟨(some 17), 19, .faddr 0 1 (.t 4), (some (16, false)), []⟩, ⟨(some 18), 20, .load false 1 (.t 17), (some (16, false)), []⟩, ⟨(some 19), 21, .faddr 0 1 (.t 5), (some (16, false)), []⟩, ⟨(some 20), 22, .load false 1 (.t 19), (some (16, false)), []⟩, ⟨(some 21), 23, .bin .neq (.t 18) (.t 20), (some (16, false)), []⟩, ⟨(some 22), 24, .pick (.t 16) (.c (.b true)) (.t 21), none, []⟩])
  (.cond (.t 22)
  (.seq (.ops [⟨(some 23), 25, .build [(.i .i64 0), (.i .i64 0), (.f 0), (.f 0)] [], none, []⟩, ⟨none, 1002001, .store 4 (.t 6) (.t 23), none, []⟩, ⟨(some 7), 9, .mv (.c (.i .i64 1)), none, []⟩])
  .ret)
  .skip))
  (.seq (.seq (.ops [⟨(some 24), 26, .faddr 0 1 (.t 4), none, []⟩, ⟨(some 25), 27, .load false 1 (.t 24), none, []⟩])
  (.block 0 (.seq (.ops [⟨(some 27), 29, .bin .eql (.t 25) (.c (.i .i64 1)), none, []⟩, ⟨(some 26), 28, .mv (.t 27), none, []⟩])
  (.cond (.t 26)
  (.seq (.ops [⟨(some 28), 30, .mv (.t 0), none, []⟩, ⟨(some 29), 31, .faddr 1 1 (.t 4), none, []⟩, ⟨(some 30), 32, .load false 1 (.t 29), none, []⟩, ⟨(some 31), 33, .faddr 1 1 (.t 5), none, []⟩, ⟨(some 32), 34, .load false 1 (.t 31), none, []⟩, ⟨(some 33), 35, .call 55 [((.t 28), 0), ((.t 30), 0), ((.t 32), 0)], none, []⟩, ⟨(some 34), 36, .ext 0 (.t 33), none, []⟩, ⟨(some 35), 37, .ext 1 (.t 33), none, []⟩, ⟨none, 1005008, .store 4 (.t 6) (.t 34), none, []⟩, ⟨(some 7), 9, .mv (.t 35), none, []⟩])
  .ret)
  (.seq (.ops [⟨(some 37), 39, .bin .eql (.t 25) (.c (.i .i64 2)), none, []⟩, ⟨(some 36), 38, .mv (.t 37), none, []⟩])
  (.cond (.t 36)
  (.seq (.ops [⟨(some 38), 40, .mv (.t 0), none, []⟩, ⟨(some 39), 41, .faddr 2 1 (.t 4), none, []⟩, ⟨(some 40), 42, .load false 1 (.t 39), none, []⟩, ⟨(some 41), 43, .faddr 2 1 (.t 5), none, []⟩, ⟨(some 42), 44, .load false 1 (.t 41), none, []⟩, ⟨(some 43), 45, .call 56 [((.t 38), 0), ((.t 40), 0), ((.t 42), 0)], none, []⟩, ⟨(some 44), 46, .ext 0 (.t 43), none, []⟩, ⟨(some 45), 47, .ext 1 (.t 43), none, []⟩, ⟨none, 1007008, .store 4 (.t 6) (.t 44), none, []⟩, ⟨(some 7), 9, .mv (.t 45), none, []⟩])
  .ret)
  (.seq (.ops [⟨(some 47), 49, .bin .eql (.t 25) (.c (.i .i64 3)), none, []⟩, ⟨(some 46), 48, .mv (.t 47), none, []⟩])
  (.cond (.t 46)
  (.seq (.ops [⟨(some 48), 50, .mv (.t 0), none, []⟩, ⟨(some 49), 51, .load true 4 (.t 4), none, []⟩, ⟨(some 50), 52, .load true 4 (.t 5), none, []⟩, ⟨(some 51), 53, .call 57 [((.t 48), 0), ((.t 49), 0), ((.t 50), 0)], none, []⟩, ⟨(some 52), 54, .ext 0 (.t 51), none, []⟩, ⟨(some 53), 55, .ext 1 (.t 51), none, []⟩, ⟨none, 1009006, .store 4 (.t 6) (.t 52), none, []⟩, ⟨(some 7), 9, .mv (.t 53), none, []⟩])
  .ret)
  .skip))))))))
  (.seq (.seq (.ops [⟨(some 54), 56, .mv (.t 0), none, []⟩])
  (.block 1 (.seq (.ops [⟨(some 56), 58, .bin .eql (.t 54) (.c (.i .i64 7)), none, []⟩, ⟨(some 55), 57, .mv (.t 56), none, []⟩])
  (.cond (.t 55)
  (.seq (.ops [⟨(some 57), 59, .faddr 1 1 (.t 4), none, []⟩, ⟨(some 58), 60, .load false 1 (.t 57), none, []⟩, ⟨(some 59), 61, .faddr 1 1 (.t 5), none, []⟩, ⟨(some 60), 62, .load false 1 (.t 59), none, []⟩, ⟨(some 61), 63, .bin .eql (.t 58) (.t 60), none, []⟩, ⟨(some 62), 64, .call 52 [((.t 61), 0)], none, []⟩, ⟨none, 1012006, .store 4 (.t 6) (.t 62), none, []⟩, ⟨(some 7), 9, .mv (.c (.i .i64 0)), none, []⟩])
  .ret)
  (.seq (.ops [⟨(some 64), 66, .bin .eql (.t 54) (.c (.i .i64 8)), none, []⟩, ⟨(some 63), 65, .mv (.t 64), none, []⟩])
  (.cond (.t 63)
  (.seq (.ops [⟨(some 65), 67, .faddr 1 1 (.t 4), none, []⟩, ⟨(some 66), 68, .load false 1 (.t 65), none, []⟩, ⟨(some 67), 69, .bin .eql (.t 66) (.c (.i .i64 1)), none, []⟩, ⟨(some 68), 70, .mv (.t 67), none, []⟩, ⟨(some 69), 71, .faddr 1 1 (.t 5), (some (68, true)), []⟩, ⟨(some 70), 72, .load false 1 (.t 69), (some (68, true)), []⟩, ⟨(some 71), 73, .bin .eql (.t 70) (.c (.i .i64 1)), (some (68, true)), []⟩, ⟨(some 72), 74, .pick (.t 68) (.t 71) (.c (.b false)), none, []⟩, ⟨(some 73), 75, .call 52 [((.t 72), 0)], none, []⟩, ⟨none, 1014009, .store 4 (.t 6) (.t 73), none, []⟩, ⟨(some 7), 9, .mv (.c (.i .i64 0)), none, []⟩])
  .ret)
  (.seq (.ops [⟨(some 75), 77, .bin .eql (.t 54) (.c (.i .i64 9)), none, []⟩, ⟨(some 74), 76, .mv (.t 75), none, []⟩])
  (.cond (.t 74)
  (.seq (.ops [⟨(some 76), 78, .faddr 1 1 (.t 4), none, []⟩, ⟨(some 77), 79, .load false 1 (.t 76), none, []⟩, ⟨(some 78), 80, .bin .eql (.t 77) (.c (.i .i64 1)), none, []⟩, ⟨(some 79), 81, .mv (.t 78), none, []⟩, ⟨(some 80), 82, .faddr 1 1 (.t 5), (some (79, false)), []⟩, ⟨(some 81), 83, .load false 1 (.t 80), (some (79, false)), []⟩, ⟨(some 82), 84, .bin .eql (.t 81) (.c (.i .i64 1)), (some (79, false)), []⟩, ⟨(some 83), 85, .pick (.t 79) (.c (.b true)) (.t 82), none, []⟩, ⟨(some 84), 86, .call 52 [((.t 83), 0)], none, []⟩, ⟨none, 1016009, .store 4 (.t 6) (.t 84), none, []⟩, ⟨(some 7), 9, .mv (.c (.i .i64 0)), none, []⟩])
  .ret)
  .skip))))))))
  (.seq (.ops [⟨(some 85), 87, .build [(.i .i64 0), (.i .i64 0), (.f 0), (.f 0)] [], none, []⟩, ⟨none, 1017001, .store 4 (.t 6) (.t 85), none, []⟩, ⟨(some 7), 9, .mv (.c (.i .i64 1)), none, []⟩])
  .ret)))))
theorem k29 : compCode Try.prog Try.f29.ntmps Try.f29.body.get! = some c29 := by kernel_rfl
theorem r29 : resTmps Try.prog Try.f29.results.toList = some [.cell 6 true 4, .tmp 7] := by kernel_rfl
/- impl.ValOp -/
def c30 : TCode := (.seq (.ops [⟨(some 4), 6, .box 4 (.t 1), none, []⟩, ⟨(some 5), 7, .box 4 (.t 2), none, []⟩, ⟨(some 6), 8, .box 4 (.c (.ag [(.i .i64 0), (.i .i64 0), (.f 0), (.f 0)])), none, []⟩, ⟨(some 7), 9, .mv (.c (.i .i64 0)), none, []⟩])
  (.seq (.seq (.ops [⟨(some 8), 10, .load true 4 (.t 4), none, []⟩, ⟨(some 9), 11, .call 19 [((.t 8), 0)], none, []⟩, ⟨(some 10), 12, .un .not (.t 9), none, []⟩, ⟨(some 11), 13, .mv (.t 10), none, []⟩, ⟨(some 12), 14, .load true 4 (.t 5), (some (11, false)), []⟩, ⟨(some 13), 15, .call 19 [((.t 12), 0)], (some (11, false)), []⟩, ⟨(some 14), 16, .un .not (.t 13), (some (11, false)), []⟩, ⟨(some 15), 17, .pick (.t 11) (.c (.b true)) (.t 14), none, []⟩, ⟨(some 16), 18, .mv (.t 15), none, []⟩, ⟨(some 17), 19, .faddr 0 1 (.t 4), (some (16, false)), []⟩, ⟨(some 18), 20, .load false 1 (.t 17), (some (16, false)), []⟩, ⟨(some 19), 21, .faddr 0 1 (.t 5), (some (16, false)), []⟩, ⟨(some 20), 22, .load false 1 (.t 19), (some (16, false)), []⟩, ⟨(some 21), 23, .bin .neq (.t 18) (.t 20), (some (16, false)), []⟩, ⟨(some 22), 24, .pick (.t 16) (.c (.b true)) (.t 21), none, []⟩])
  (.cond (.t 22)
  (.seq (.ops [⟨(some 23), 25, .build [(.i .i64 0), (.i .i64 0), (.f 0), (.f 0)] [], none, []⟩, ⟨none, 1002001, .store 4 (.t 6) (.t 23), none, []⟩, ⟨(some 7), 9, .mv (.c (.i .i64 1)), none, []⟩])
  .ret)
  .skip))
  (.seq (.seq (.ops [⟨(some 24), 26, .faddr 0 1 (.t 4), none, []⟩, ⟨(some 25), 27, .load false 1 (.t 24), none, []⟩])
  (.block 0 (.seq (.ops [⟨(some 27), 29, .bin .eql (.t 25) (.c (.i .i64 1)), none, []⟩, ⟨(some 26), 28, .mv (.t 27), none, []⟩])
  (.cond (.t 26)
  (.seq (.ops [⟨(some 28), 30, .mv (.t 0), none, []⟩, ⟨(some 29), 31, .faddr 1 1 (.t 4), none, []⟩, ⟨(some 30), 32, .load false 1 (.t 29), none, []⟩, ⟨(some 31), 33, .faddr 1 1 (.t 5), none, []⟩, ⟨(some 32), 34, .load false 1 (.t 31), none, []⟩, ⟨(some 33), 35, .call 58 [((.t 28), 0), ((.t 30), 0), ((.t 32), 0)], none, []⟩, ⟨(some 34), 36, .ext 0 (.t 33), none, []⟩, ⟨(some 35), 37, .ext 1 (.t 33), none, []⟩, ⟨none, 1005008, .store 4 (.t 6) (.t 34), none, []⟩, ⟨(some 7), 9, .mv (.t 35), none, []⟩])
  .ret)
  (.seq (.ops [⟨(some 37), 39, .bin .eql (.t 25) (.c (.i .i64 2)), none, []⟩, ⟨(some 36), 38, .mv (.t 37), none, []⟩])
  (.cond (.t 36)
  (.seq (.ops [⟨(some 38), 40, .mv (.t 0), none, []⟩, ⟨(some 39), 41, .faddr 2 1 (.t 4), none, []⟩, ⟨(some 40), 42, .load false 1 (.t 39), none, []⟩, ⟨(some 41), 43, .faddr 2 1 (.t 5), none, []⟩, ⟨(some 42), 44, .load false 1 (.t 41), none, []⟩, ⟨(some 43), 45, .call 59 [((.t 38), 0), ((.t 40), 0), ((.t 42), 0)], none, []⟩, ⟨(some 44), 46, .ext 0 (.t 43), none, []⟩, ⟨(some 45), 47, .ext 1 (.t 43), none, []⟩, ⟨none, 1007008, .store 4 (.t 6) (.t 44), none, []⟩, ⟨(some 7), 9, .mv (.t 45), none, []⟩])
  .ret)
  (.seq (.ops [⟨(some 47), 49, .bin .eql (.t 25) (.c (.i .i64 3)), none, []⟩, ⟨(some 46), 48, .mv (.t 47), none, []⟩])
  (.cond (.t 46)
  (.seq (.ops [⟨(some 48), 50, .mv (.t 0), none, []⟩, ⟨(some 49), 51, .load true 4 (.t 4), none, []⟩, ⟨(some 50), 52, .load true 4 (.t 5), none, []⟩, ⟨(some 51), 53, .call 60 [((.t 48), 0), ((.t 49), 0), ((.t 50), 0)], none, []⟩, ⟨(some 52), 54, .ext 0 (.t 51), none, []⟩, ⟨(some 53), 55, .ext 1 (.t 51), none, []⟩, ⟨none, 1009006, .store 4 (.t 6) (.t 52), none, []⟩, ⟨(some 7), 9, .mv (.t 53), none, []⟩])
  .ret)
  .skip))))))))
  (.seq (.ops [⟨(some 54), 56, .mv (.t 0), none, []⟩, ⟨(some 55), 57, .faddr 1 1 (.t 4), none, []⟩, ⟨(some 56), 58, .load false 1 (.t 55), none, []⟩, ⟨(some 57), 59, .faddr 1 1 (.t 5), none, []⟩, ⟨(some 58), 60, .load false 1 (.t 57), none, []⟩, ⟨(some 59), 61, .call 61 [((.t 54), 0), ((.t 56), 0), ((.t 58), 0)], none, []⟩, ⟨(some 60), 62, .ext 0 (.t 59), none, []⟩, ⟨(some 61), 63, .ext 1 (.t 59), none, []⟩, ⟨none, 1010008, .store 4 (.t 6) (.t 60), none, []⟩, ⟨(some 7), 9, .mv (.t 61), none, []⟩])
  .ret))))
theorem k30 : compCode Try.prog Try.f30.ntmps Try.f30.body.get! = some c30 := by kernel_rfl
theorem r30 : resTmps Try.prog Try.f30.results.toList = some [.cell 6 true 4, .tmp 7] := by kernel_rfl
/- laws.FnExactValOp -/
def c9 : TCode := (.seq (.ops [⟨(some 4), 6, .box 4 (.t 1), none, []⟩, ⟨(some 5), 7, .box 4 (.t 2), none, []⟩, ⟨(some 6), 8, .mv (.c (.b false)), none, []⟩])
  (.seq (.draw [⟨(some 12), 14, .mv (.t 0), none, []⟩, ⟨(some 13), 15, .load true 4 (.t 4), none, []⟩, ⟨(some 14), 16, .call 16 [((.t 13), 0)], none, [0]⟩, ⟨(some 15), 17, .load true 4 (.t 5), none, [2]⟩, ⟨(some 16), 18, .call 16 [((.t 15), 0)], none, [0]⟩, ⟨(some 17), 19, .call 29 [((.t 12), 0), ((.t 14), 0), ((.t 16), 0)], none, []⟩, ⟨(some 11), 13, .mv (.t 17), none, []⟩, ⟨(some 18), 20, .ext 0 (.t 11), none, []⟩, ⟨(some 19), 21, .ext 1 (.t 11), none, []⟩, ⟨(some 7), 9, .box 4 (.c (.ag [(.i .i64 0), (.i .i64 0), (.f 0), (.f 0)])), none, [0, 1, 2, 3, 4, 5, 6, 7, 8]⟩, ⟨none, 1001010, .store 4 (.t 7) (.t 18), none, [1000000, 8]⟩, ⟨(some 8), 10, .mv (.t 19), none, []⟩])
  (.seq (.draw [⟨(some 21), 23, .mv (.t 0), none, []⟩, ⟨(some 22), 24, .load true 4 (.t 4), none, []⟩, ⟨(some 23), 25, .call 16 [((.t 22), 0)], none, [0]⟩, ⟨(some 24), 26, .load true 4 (.t 5), none, [2]⟩, ⟨(some 25), 27, .call 16 [((.t 24), 0)], none, [0]⟩, ⟨(some 26), 28, .call 30 [((.t 21), 0), ((.t 23), 0), ((.t 25), 0)], none, []⟩, ⟨(some 20), 22, .mv (.t 26), none, []⟩, ⟨(some 27), 29, .ext 0 (.t 20), none, []⟩, ⟨(some 28), 30, .ext 1 (.t 20), none, []⟩, ⟨(some 9), 11, .box 4 (.c (.ag [(.i .i64 0), (.i .i64 0), (.f 0), (.f 0)])), none, [0, 1, 2, 3, 4, 5, 6, 7, 8]⟩, ⟨none, 1002010, .store 4 (.t 9) (.t 27), none, [1000000, 8]⟩, ⟨(some 10), 12, .mv (.t 28), none, []⟩])
  (.seq (.seq (.ops [⟨(some 29), 31, .load true 4 (.t 9), none, []⟩, ⟨(some 30), 32, .load true 4 (.t 7), none, []⟩, ⟨(some 31), 33, .call 22 [((.t 29), 0), ((.t 30), 0)], none, []⟩, ⟨(some 32), 34, .un .not (.t 31), none, []⟩, ⟨(some 33), 35, .mv (.t 32), none, []⟩, ⟨(some 34), 36, .mv (.t 10), (some (33, false)), []⟩, ⟨(some 35), 37, .mv (.t 8), (some (33, false)), []⟩, ⟨(some 36), 38, .bin .neq (.t 34) (.t 35), (some (33, false)), []⟩, ⟨(some 37), 39, .pick (.t 33) (.c (.b true)) (.t 36), none, []⟩])
  (.cond (.t 37)
  (.seq (.ops [⟨(some 6), 8, .mv (.c (.b false)), none, []⟩])
  .ret)
  .skip))
  (.seq (.ops [⟨(some 6), 8, .mv (.c (.b true)), none, []⟩])
  .ret)))))
theorem k9 : compCode Try.prog Try.f9.ntmps Try.f9.body.get! = some c9 := by kernel_rfl
theorem r9 : resTmps Try.prog Try.f9.results.toList = some [.tmp 6] := by kernel_rfl
/- spec.ValTurn -/
def c27 : TCode := (.seq (.ops [⟨(some 3), 5, .box 4 (.t 1), none, []⟩, ⟨(some 4), 6, .box 4 (.c (.ag [(.i .i64 0), (.i .i64 0), (.f 0), (.f 0)])), none, []⟩, ⟨(some 5), 7, .mv (.c (.i .i64 0)), none, []⟩])
  (.seq (.seq (.ops [⟨(some 9), 11, .load true 4 (.t 3), none, []⟩, ⟨(some 10), 12, .call 18 [((.t 9), 0)], none, []⟩, ⟨(some 11), 13, .un .not (.t 10), none, []⟩])
  (.cond (.t 11)
  (.seq (.ops [⟨(some 12), 14, .build [(.i .i64 0), (.i .i64 0), (.f 0), (.f 0)] [], none, []⟩, ⟨none, 1002001, .store 4 (.t 4) (.t 12), none, []⟩, ⟨(some 5), 7, .mv (.c (.i .i64 1)), none, []⟩])
  .ret)
  .skip))
  (.seq (.ops [⟨(some 13), 15, .build [(.i .i64 0), (.i .i64 0), (.f 0), (.f 0)] [(0, 1, (.c (.i .i64 2)))], none, []⟩, ⟨(some 6), 8, .box 4 (.c (.ag [(.i .i64 0), (.i .i64 0), (.f 0), (.f 0)])), none, []⟩, ⟨none, 1003002, .store 4 (.t 6) (.t 13), none, []⟩])
  (.seq (.block 0 (.seq (.ops [⟨(some 15), 17, .mv (.t 0), none, []⟩, ⟨(some 16), 18, .bin .eql (.t 15) (.c (.i .i64 1)), none, []⟩, ⟨(some 17), 19, .mv (.t 16), none, []⟩, ⟨(some 18), 20, .faddr 0 1 (.t 3), (some (17, true)), []⟩, ⟨(some 19), 21, .load false 1 (.t 18), (some (17, true)), []⟩, ⟨(some 20), 22, .bin .eql (.t 19) (.c (.i .i64 1)), (some (17, true)), []⟩, ⟨(some 21), 23, .pick (.t 17) (.t 20) (.c (.b false)), none, []⟩, ⟨(some 14), 16, .mv (.t 21), none, []⟩])
  (.cond (.t 14)
  (.seq (.ops [⟨(some 22), 24, .faddr 1 1 (.t 3), none, []⟩, ⟨(some 23), 25, .load false 1 (.t 22), none, []⟩, ⟨(some 24), 26, .un .neg (.t 23), none, []⟩, ⟨(some 25), 27, .build [(.i .i64 0), (.i .i64 0), (.f 0), (.f 0)] [(0, 1, (.c (.i .i64 1))), (1, 1, (.t 24))], none, []⟩, ⟨none, 1005004, .store 4 (.t 4) (.t 25), none, []⟩, ⟨(some 5), 7, .mv (.c (.i .i64 0)), none, []⟩])
  .ret)
  (.seq (.ops [⟨(some 27), 29, .mv (.t 0), none, []⟩, ⟨(some 28), 30, .bin .eql (.t 27) (.c (.i .i64 1)), none, []⟩, ⟨(some 29), 31, .mv (.t 28), none, []⟩, ⟨(some 30), 32, .faddr 0 1 (.t 3), (some (29, true)), []⟩, ⟨(some 31), 33, .load false 1 (.t 30), (some (29, true)), []⟩, ⟨(some 32), 34, .bin .eql (.t 31) (.c (.i .i64 2)), (some (29, true)), []⟩, ⟨(some 33), 35, .pick (.t 29) (.t 32) (.c (.b false)), none, []⟩, ⟨(some 26), 28, .mv (.t 33), none, []⟩])
  (.cond (.t 26)
  (.seq (.ops [⟨(some 34), 36, .faddr 2 1 (.t 3), none, []⟩, ⟨(some 35), 37, .load false 1 (.t 34), none, []⟩, ⟨(some 36), 38, .un .neg (.t 35), none, []⟩, ⟨(some 37), 39, .faddr 2 1 (.t 6), none, []⟩, ⟨none, 1007004, .store 1 (.t 37) (.t 36), none, []⟩])
  (.seq (.ops [⟨(some 38), 40, .load true 4 (.t 6), none, []⟩, ⟨none, 1008001, .store 4 (.t 4) (.t 38), none, []⟩, ⟨(some 5), 7, .mv (.c (.i .i64 0)), none, []⟩])
  .ret))
  (.seq (.ops [⟨(some 40), 42, .mv (.t 0), none, []⟩, ⟨(some 41), 43, .bin .eql (.t 40) (.c (.i .i64 1)), none, []⟩, ⟨(some 42), 44, .mv (.t 41), none, []⟩, ⟨(some 43), 45, .faddr 0 1 (.t 3), (some (42, true)), []⟩, ⟨(some 44), 46, .load false 1 (.t 43), (some (42, true)), []⟩, ⟨(some 45), 47, .bin .eql (.t 44) (.c (.i .i64 3)), (some (42, true)), []⟩, ⟨(some 46), 48, .pick (.t 42) (.t 45) (.c (.b false)), none, []⟩, ⟨(some 39), 41, .mv (.t 46), none, []⟩])
  (.cond (.t 39)
  (.seq (.ops [⟨(some 47), 49, .faddr 2 1 (.t 3), none, []⟩, ⟨(some 48), 50, .load false 1 (.t 47), none, []⟩, ⟨(some 49), 51, .un .neg (.t 48), none, []⟩, ⟨(some 50), 52, .faddr 3 1 (.t 3), none, []⟩, ⟨(some 51), 53, .load false 1 (.t 50), none, []⟩, ⟨(some 52), 54, .un .neg (.t 51), none, []⟩, ⟨(some 53), 55, .build [(.i .i64 0), (.i .i64 0), (.f 0), (.f 0)] [(0, 1, (.c (.i .i64 3))), (2, 1, (.t 49)), (3, 1, (.t 52))], none, []⟩, ⟨none, 1010007, .store 4 (.t 4) (.t 53), none, []⟩, ⟨(some 5), 7, .mv (.c (.i .i64 0)), none, []⟩])
  .ret)
  (.seq (.ops [⟨(some 55), 57, .mv (.t 0), none, []⟩, ⟨(some 56), 58, .bin .eql (.t 55) (.c (.i .i64 2)), none, []⟩, ⟨(some 57), 59, .mv (.t 56), none, []⟩, ⟨(some 58), 60, .faddr 0 1 (.t 3), (some (57, true)), []⟩, ⟨(some 59), 61, .load false 1 (.t 58), (some (57, true)), []⟩, ⟨(some 60), 62, .bin .eql (.t 59) (.c (.i .i64 4)), (some (57, true)), []⟩, ⟨(some 61), 63, .pick (.t 57) (.t 60) (.c (.b false)), none, []⟩, ⟨(some 54), 56, .mv (.t 61), none, []⟩])
  (.cond (.t 54)
  (.seq (.ops [⟨(some 62), 64, .faddr 1 1 (.t 3), none, []⟩, ⟨(some 63), 65, .load false 1 (.t 62), none, []⟩, ⟨(some 64), 66, .bin .eql (.t 63) (.c (.i .i64 0)), none, []⟩, ⟨(some 65), 67, .call 52 [((.t 64), 0)], none, []⟩, ⟨none, 1012004, .store 4 (.t 4) (.t 65), none, []⟩, ⟨(some 5), 7, .mv (.c (.i .i64 0)), none, []⟩])
  .ret)
  (.seq (.ops [⟨(some 67), 69, .mv (.t 0), none, []⟩, ⟨(some 68), 70, .bin .eql (.t 67) (.c (.i .i64 3)), none, []⟩, ⟨(some 69), 71, .mv (.t 68), none, []⟩, ⟨(some 70), 72, .faddr 0 1 (.t 3), (some (69, true)), []⟩, ⟨(some 71), 73, .load false 1 (.t 70), (some (69, true)), []⟩, ⟨(some 72), 74, .bin .eql (.t 71) (.c (.i .i64 3)), (some (69, true)), []⟩, ⟨(some 73), 75, .pick (.t 69) (.t 72) (.c (.b false)), none, []⟩, ⟨(some 66), 68, .mv (.t 73), none, []⟩])
  (.cond (.t 66)
  (.seq (.ops [⟨(some 74), 76, .faddr 2 1 (.t 3), none, []⟩, ⟨(some 75), 77, .load false 1 (.t 74), none, []⟩, ⟨(some 76), 78, .faddr 2 1 (.t 6), none, []⟩, ⟨none, 1014003, .store 1 (.t 76) (.t 75), none, []⟩])
  (.seq (.ops [⟨(some 77), 79, .load true 4 (.t 6), none, []⟩, ⟨none, 1015001, .store 4 (.t 4) (.t 77), none, []⟩, ⟨(some 5), 7, .mv (.c (.i .i64 0)), none, []⟩])
  .ret))
  (.seq (.ops [⟨(some 79), 81, .mv (.t 0), none, []⟩, ⟨(some 80), 82, .bin .eql (.t 79) (.c (.i .i64 4)), none, []⟩, ⟨(some 81), 83, .mv (.t 80), none, []⟩, ⟨(some 82), 84, .faddr 0 1 (.t 3), (some (81, true)), []⟩, ⟨(some 83), 85, .load false 1 (.t 82), (some (81, true)), []⟩, ⟨(some 84), 86, .bin .eql (.t 83) (.c (.i .i64 3)), (some (81, true)), []⟩, ⟨(some 85), 87, .pick (.t 81) (.t 84) (.c (.b false)), none, []⟩, ⟨(some 78), 80, .mv (.t 85), none, []⟩])
  (.cond (.t 78)
  (.seq (.ops [⟨(some 86), 88, .faddr 3 1 (.t 3), none, []⟩, ⟨(some 87), 89, .load false 1 (.t 86), none, []⟩, ⟨(some 88), 90, .faddr 2 1 (.t 6), none, []⟩, ⟨none, 1017003, .store 1 (.t 88) (.t 87), none, []⟩])
  (.seq (.ops [⟨(some 89), 91, .load true 4 (.t 6), none, []⟩, ⟨none, 1018001, .store 4 (.t 4) (.t 89), none, []⟩, ⟨(some 5), 7, .mv (.c (.i .i64 0)), none, []⟩])
  .ret))
  (.seq (.ops [⟨(some 91), 93, .mv (.t 0), none, []⟩, ⟨(some 92), 94, .bin .eql (.t 91) (.c (.i .i64 5)), none, []⟩, ⟨(some 93), 95, .mv (.t 92), none, []⟩, ⟨(some 94), 96, .faddr 0 1 (.t 3), (some (93, true)), []⟩, ⟨(some 95), 97, .load false 1 (.t 94), (some (93, true)), []⟩, ⟨(some 96), 98, .bin .eql (.t 95) (.c (.i .i64 1)), (some (93, true)), []⟩, ⟨(some 97), 99, .pick (.t 93) (.t 96) (.c (.b false)), none, []⟩, ⟨(some 90), 92, .mv (.t 97), none, []⟩])
  (.cond (.t 90)
  (.seq (.ops [⟨(some 98), 100, .faddr 1 1 (.t 3), none, []⟩, ⟨(some 99), 101, .load false 1 (.t 98), none, []⟩, ⟨(some 100), 102, .toF (.t 99), none, []⟩, ⟨(some 101), 103, .faddr 2 1 (.t 6), none, []⟩, ⟨none, 1020004, .store 1 (.t 101) (.t 100), none, []⟩])
  (.seq (.ops [⟨(some 102), 104, .load true 4 (.t 6), none, []⟩, ⟨none, 1021001, .store 4 (.t 4) (.t 102), none, []⟩, ⟨(some 5), 7, .mv (.c (.i .i64 0)), none, []⟩])
  .ret))
  (.seq (.ops [⟨(some 104), 106, .mv (.t 0), none, []⟩, ⟨(some 105), 107, .bin .eql (.t 104) (.c (.i .i64 6)), none, []⟩, ⟨(some 106), 108, .mv (.t 105), none, []⟩, ⟨(some 107), 109, .faddr 0 1 (.t 3), (some (106, true)), []⟩, ⟨(some 108), 110, .load false 1 (.t 107), (some (106, true)), []⟩, ⟨(some 109), 111, .bin .eql (.t 108) (.c (.i .i64 3)), (some (106, true)), []⟩, ⟨(some 110), 112, .pick (.t 106) (.t 109) (.c (.b false)), none, []⟩, ⟨(some 103), 105, .mv (.t 110), none, []⟩])
  (.cond (.t 103)
  (.seq (.ops [⟨(some 111), 113, .faddr 2 1 (.t 3), none, []⟩, ⟨(some 112), 114, .load false 1 (.t 111), none, []⟩, ⟨(some 113), 115, .faddr 2 1 (.t 3), none, []⟩, ⟨(some 114), 116, .load false 1 (.t 113), none, []⟩, ⟨(some 115), 117, .bin .mul (.t 112) (.t 114), none, []⟩, ⟨(some 7), 9, .mv (.t 115), none, []⟩])
  (.seq (.ops [⟨(some 116), 118, .faddr 3 1 (.t 3), none, []⟩, ⟨(some 117), 119, .load false 1 (.t 116), none, []⟩, ⟨(some 118), 120, .faddr 3 1 (.t 3), none, []⟩, ⟨(some 119), 121, .load false 1 (.t 118), none, []⟩, ⟨(some 120), 122, .bin .mul (.t 117) (.t 119), none, []⟩, ⟨(some 8), 10, .mv (.t 120), none, []⟩])
  (.seq (.ops [⟨(some 121), 123, .mv (.t 7), none, []⟩, ⟨(some 122), 124, .mv (.t 8), none, []⟩, ⟨(some 123), 125, .bin .add (.t 121) (.t 122), none, []⟩, ⟨(some 124), 126, .faddr 2 1 (.t 6), none, []⟩, ⟨none, 1025004, .store 1 (.t 124) (.t 123), none, []⟩])
  (.seq (.ops [⟨(some 125), 127, .load true 4 (.t 6), none, []⟩, ⟨none, 1026001, .store 4 (.t 4) (.t 125), none, []⟩, ⟨(some 5), 7, .mv (.c (.i .i64 0)), none, []⟩])
  .ret))))
  .skip)))))))))))))))))
  (.seq (.ops [⟨(some 126), 128, .build [(.i .i64 0), (.i .i64 0), (.f 0), (.f 0)] [], none, []⟩, ⟨none, 1027001, .store 4 (.t 4) (.t 126), none, []⟩, ⟨(some 5), 7, .mv (.c (.i .i64 1)), none, []⟩])
  .ret)))))
theorem k27 : compCode Try.prog Try.f27.ntmps Try.f27.body.get! = some c27 := by kernel_rfl
theorem r27 : resTmps Try.prog Try.f27.results.toList = some [.cell 4 true 4, .tmp 5] := by kernel_rfl
/- impl.ValTurn -/
def c28 : TCode := (.seq (.ops [⟨(some 3), 5, .box 4 (.t 1), none, []⟩, ⟨(some 4), 6, .box 4 (.c (.ag [(.i .i64 0), (.i .i64 0), (.f 0), (.f 0)])), none, []⟩, ⟨(some 5), 7, .mv (.c (.i .i64 0)), none, []⟩])
  (.seq (.seq (.ops [⟨(some 6), 8, .load true 4 (.t 3), none, []⟩, ⟨(some 7), 9, .call 19 [((.t 6), 0)], none, []⟩, ⟨(some 8), 10, .un .not (.t 7), none, []⟩])
  (.cond (.t 8)
  (.seq (.ops [⟨(some 9), 11, .build [(.i .i64 0), (.i .i64 0), (.f 0), (.f 0)] [], none, []⟩, ⟨none, 1002001, .store 4 (.t 4) (.t 9), none, []⟩, ⟨(some 5), 7, .mv (.c (.i .i64 1)), none, []⟩])
  .ret)
  .skip))
  (.seq (.block 0 (.seq (.ops [⟨(some 11), 13, .mv (.t 0), none, []⟩, ⟨(some 12), 14, .bin .eql (.t 11) (.c (.i .i64 1)), none, []⟩, ⟨(some 13), 15, .mv (.t 12), none, []⟩, ⟨(some 14), 16, .faddr 0 1 (.t 3), (some (13, true)), []⟩, ⟨(some 15), 17, .load false 1 (.t 14), (some (13, true)), []⟩, ⟨(some 16), 18, .bin .eql (.t 15) (.c (.i .i64 1)), (some (13, true)), []⟩, ⟨(some 17), 19, .pick (.t 13) (.t 16) (.c (.b false)), none, []⟩, ⟨(some 10), 12, .mv (.t 17), none, []⟩])
  (.cond (.t 10)
  (.seq (.ops [⟨(some 18), 20, .faddr 1 1 (.t 3), none, []⟩, ⟨(some 19), 21, .load false 1 (.t 18), none, []⟩, ⟨(some 20), 22, .un .neg (.t 19), none, []⟩, ⟨(some 21), 23, .build [(.i .i64 0), (.i .i64 0), (.f 0), (.f 0)] [(0, 1, (.c (.i .i64 1))), (1, 1, (.t 20))], none, []⟩, ⟨none, 1004004, .store 4 (.t 4) (.t 21), none, []⟩, ⟨(some 5), 7, .mv (.c (.i .i64 0)), none, []⟩])
  .ret)
  (.seq (.ops [⟨(some 23), 25, .mv (.t 0), none, []⟩, ⟨(some 24), 26, .bin .eql (.t 23) (.c (.i .i64 1)), none, []⟩, ⟨(some 25), 27, .mv (.t 24), none, []⟩, ⟨(some 26), 28, .faddr 0 1 (.t 3), (some (25, true)), []⟩, ⟨(some 27), 29, .load false 1 (.t 26), (some (25, true)), []⟩, ⟨(some 28), 30, .bin .eql (.t 27) (.c (.i .i64 2)), (some (25, true)), []⟩, ⟨(some 29), 31, .pick (.t 25) (.t 28) (.c (.b false)), none, []⟩, ⟨(some 22), 24, .mv (.t 29), none, []⟩])
  (.cond (.t 22)
  (.seq (.ops [⟨(some 30), 32, .faddr 2 1 (.t 3), none, []⟩, ⟨(some 31), 33, .load false 1 (.t 30), none, []⟩, ⟨(some 32), 34, .un .neg (.t 31), none, []⟩, ⟨(some 33), 35, .call 53 [((.t 32), 0)], none, []⟩, ⟨(some 34), 36, .ext 0 (.t 33), none, []⟩, ⟨(some 35), 37, .ext 1 (.t 33), none, []⟩, ⟨none, 1006006, .store 4 (.t 4) (.t 34), none, []⟩, ⟨(some 5), 7, .mv (.t 35), none, []⟩])
  .ret)
  (.seq (.ops [⟨(some 37), 39, .mv (.t 0), none, []⟩, ⟨(some 38), 40, .bin .eql (.t 37) (.c (.i .i64 1)), none, []⟩, ⟨(some 39), 41, .mv (.t 38), none, []⟩, ⟨(some 40), 42, .faddr 0 1 (.t 3), (some (39, true)), []⟩, ⟨(some 41), 43, .load false 1 (.t 40), (some (39, true)), []⟩, ⟨(some 42), 44, .bin .eql (.t 41) (.c (.i .i64 3)), (some (39, true)), []⟩, ⟨(some 43), 45, .pick (.t 39) (.t 42) (.c (.b false)), none, []⟩, ⟨(some 36), 38, .mv (.t 43), none, []⟩])
  (.cond (.t 36)
  (.seq (.ops [⟨(some 44), 46, .faddr 2 1 (.t 3), none, []⟩, ⟨(some 45), 47, .load false 1 (.t 44), none, []⟩, ⟨(some 46), 48, .un .neg (.t 45), none, []⟩, ⟨(some 47), 49, .faddr 3 1 (.t 3), none, []⟩, ⟨(some 48), 50, .load false 1 (.t 47), none, []⟩, ⟨(some 49), 51, .un .neg (.t 48), none, []⟩, ⟨(some 50), 52, .build [(.i .i64 0), (.i .i64 0), (.f 0), (.f 0)] [(0, 1, (.c (.i .i64 3))), (2, 1, (.t 46)), (3, 1, (.t 49))], none, []⟩, ⟨none, 1008007, .store 4 (.t 4) (.t 50), none, []⟩, ⟨(some 5), 7, .mv (.c (.i .i64 0)), none, []⟩])
  .ret)
  (.seq (.ops [⟨(some 52), 54, .mv (.t 0), none, []⟩, ⟨(some 53), 55, .bin .eql (.t 52) (.c (.i .i64 2)), none, []⟩, ⟨(some 54), 56, .mv (.t 53), none, []⟩, ⟨(some 55), 57, .faddr 0 1 (.t 3), (some (54, true)), []⟩, ⟨(some 56), 58, .load false 1 (.t 55), (some (54, true)), []⟩, ⟨(some 57), 59, .bin .eql (.t 56) (.c (.i .i64 4)), (some (54, true)), []⟩, ⟨(some 58), 60, .pick (.t 54) (.t 57) (.c (.b false)), none, []⟩, ⟨(some 51), 53, .mv (.t 58), none, []⟩])
  (.cond (.t 51)
  (.seq (.ops [⟨(some 59), 61, .faddr 1 1 (.t 3), none, []⟩, ⟨(some 60), 62, .load false 1 (.t 59), none, []⟩, ⟨(some 61), 63, .bin .eql (.t 60) (.c (.i .i64 0)), none, []⟩, ⟨(some 62), 64, .call 54 [((.t 61), 0)], none, []⟩, ⟨(some 63), 65, .ext 0 (.t 62), none, []⟩, ⟨(some 64), 66, .ext 1 (.t 62), none, []⟩, ⟨none, 1010006, .store 4 (.t 4) (.t 63), none, []⟩, ⟨(some 5), 7, .mv (.t 64), none, []⟩])
  .ret)
  (.seq (.ops [⟨(some 66), 68, .mv (.t 0), none, []⟩, ⟨(some 67), 69, .bin .eql (.t 66) (.c (.i .i64 3)), none, []⟩, ⟨(some 68), 70, .mv (.t 67), none, []⟩, ⟨(some 69), 71, .faddr 0 1 (.t 3), (some (68, true)), []⟩, ⟨(some 70), 72, .load false 1 (.t 69), (some (68, true)), []⟩, ⟨(some 71), 73, .bin .eql (.t 70) (.c (.i .i64 3)), (some (68, true)), []⟩, ⟨(some 72), 74, .pick (.t 68) (.t 71) (.c (.b false)), none, []⟩, ⟨(some 65), 67, .mv (.t 72), none, []⟩])
  (.cond (.t 65)
  (.seq (.ops [⟨(some 73), 75, .faddr 2 1 (.t 3), none, []⟩, ⟨(some 74), 76, .load false 1 (.t 73), none, []⟩, ⟨(some 75), 77, .call 53 [((.t 74), 0)], none, []⟩, ⟨(some 76), 78, .ext 0 (.t 75), none, []⟩, ⟨(some 77), 79, .ext 1 (.t 75), none, []⟩, ⟨none, 1012005, .store 4 (.t 4) (.t 76), none, []⟩, ⟨(some 5), 7, .mv (.t 77), none, []⟩])
  .ret)
  (.seq (.ops [⟨(some 79), 81, .mv (.t 0), none, []⟩, ⟨(some 80), 82, .bin .eql (.t 79) (.c (.i .i64 4)), none, []⟩, ⟨(some 81), 83, .mv (.t 80), none, []⟩, ⟨(some 82), 84, .faddr 0 1 (.t 3), (some (81, true)), []⟩, ⟨(some 83), 85, .load false 1 (.t 82), (some (81, true)), []⟩, ⟨(some 84), 86, .bin .eql (.t 83) (.c (.i .i64 3)), (some (81, true)), []⟩, ⟨(some 85), 87, .pick (.t 81) (.t 84) (.c (.b false)), none, []⟩, ⟨(some 78), 80, .mv (.t 85), none, []⟩])
  (.cond (.t 78)
  (.seq (.ops [⟨(some 86), 88, .faddr 3 1 (.t 3), none, []⟩, ⟨(some 87), 89, .load false 1 (.t 86), none, []⟩, ⟨(some 88), 90, .call 53 [((.t 87), 0)], none, []⟩, ⟨(some 89), 91, .ext 0 (.t 88), none, []⟩, ⟨(some 90), 92, .ext 1 (.t 88), none, []⟩, ⟨none, 1014005, .store 4 (.t 4) (.t 89), none, []⟩, ⟨(some 5), 7, .mv (.t 90), none, []⟩])
  .ret)
  (.seq (.ops [⟨(some 92), 94, .mv (.t 0), none, []⟩, ⟨(some 93), 95, .bin .eql (.t 92) (.c (.i .i64 5)), none, []⟩, ⟨(some 94), 96, .mv (.t 93), none, []⟩, ⟨(some 95), 97, .faddr 0 1 (.t 3), (some (94, true)), []⟩, ⟨(some 96), 98, .load false 1 (.t 95), (some (94, true)), []⟩, ⟨(some 97), 99, .bin .eql (.t 96) (.c (.i .i64 1)), (some (94, true)), []⟩, ⟨(some 98), 100, .pick (.t 94) (.t 97) (.c (.b false)), none, []⟩, ⟨(some 91), 93, .mv (.t 98), none, []⟩])
  (.cond (.t 91)
  (.seq (.ops [⟨(some 99), 101, .faddr 1 1 (.t 3), none, []⟩, ⟨(some 100), 102, .load false 1 (.t 99), none, []⟩, ⟨(some 101), 103, .toF (.t 100), none, []⟩, ⟨(some 102), 104, .call 53 [((.t 101), 0)], none, []⟩, ⟨(some 103), 105, .ext 0 (.t 102), none, []⟩, ⟨(some 104), 106, .ext 1 (.t 102), none, []⟩, ⟨none, 1016006, .store 4 (.t 4) (.t 103), none, []⟩, ⟨(some 5), 7, .mv (.t 104), none, []⟩])
  .ret)
  (.seq (.ops [⟨(some 106), 108, .mv (.t 0), none, []⟩, ⟨(some 107), 109, .bin .eql (.t 106) (.c (.i .i64 6)), none, []⟩, ⟨(some 108), 110, .mv (.t 107), none, []⟩, ⟨(some 109), 111, .faddr 0 1 (.t 3), (some (108, true)), []⟩, ⟨(some 110), 112, .load false 1 (.t 109), (some (108, true)), []⟩, ⟨(some 111), 113, .bin .eql (.t 110) (.c (.i .i64 3)), (some (108, true)), []⟩, ⟨(some 112), 114, .pick (.t 108) (.t 111) (.c (.b false)), none, []⟩, ⟨(some 105), 107, .mv (.t 112), none, []⟩])
  (.cond (.t 105)
  (.seq (.ops [⟨(some 113), 115, .faddr 2 1 (.t 3), none, []⟩, ⟨(some 114), 116, .load false 1 (.t 113), none, []⟩, ⟨(some 115), 117, .faddr 2 1 (.t 3), none, []⟩, ⟨(some 116), 118, .load false 1 (.t 115), none, []⟩, ⟨(some 117), 119, .bin .mul (.t 114) (.t 116), none, []⟩, ⟨(some 118), 120, .faddr 3 1 (.t 3), none, []⟩, ⟨(some 119), 121, .load false 1 (.t 118), none, []⟩, ⟨(some 120), 122, .faddr 3 1 (.t 3), none, []⟩, ⟨(some 121), 123, .load false 1 (.t 120), none, []⟩, ⟨(some 122), 124, .bin .mul (.t 119) (.t 121), none, []⟩, ⟨(some 123), 125, .bin .add (.t 117) (.t 122), none, []⟩, ⟨(some 124), 126, .call 53 [((.t 123), 0)], none, []⟩, ⟨(some 125), 127, .ext 0 (.t 124), none, []⟩, ⟨(some 126), 128, .ext 1 (.t 124), none, []⟩, ⟨none, 1018014, .store 4 (.t 4) (.t 125), none, []⟩, ⟨(some 5), 7, .mv (.t 126), none, []⟩])
  .ret)
  .skip)))))))))))))))))
  (.seq (.ops [⟨(some 127), 129, .build [(.i .i64 0), (.i .i64 0), (.f 0), (.f 0)] [], none, []⟩, ⟨none, 1019001, .store 4 (.t 4) (.t 127), none, []⟩, ⟨(some 5), 7, .mv (.c (.i .i64 1)), none, []⟩])
  .ret))))
theorem k28 : compCode Try.prog Try.f28.ntmps Try.f28.body.get! = some c28 := by kernel_rfl
theorem r28 : resTmps Try.prog Try.f28.results.toList = some [.cell 4 true 4, .tmp 5] := by kernel_rfl
/- laws.FnExactValTurn -/
def c8 : TCode := (.seq (.ops [⟨(some 3), 5, .box 4 (.t 1), none, []⟩, ⟨(some 4), 6, .mv (.c (.b false)), none, []⟩])
  (.seq (.ops [⟨(some 10), 12, .mv (.t 0), none, []⟩, ⟨(some 11), 13, .load true 4 (.t 3), none, []⟩, ⟨(some 12), 14, .call 16 [((.t 11), 0)], none, []⟩, ⟨(some 13), 15, .call 27 [((.t 10), 0), ((.t 12), 0)], none, []⟩, ⟨(some 9), 11, .mv (.t 13), none, []⟩, ⟨(some 14), 16, .ext 0 (.t 9), none, []⟩, ⟨(some 15), 17, .ext 1 (.t 9), none, []⟩, ⟨(some 5), 7, .box 4 (.c (.ag [(.i .i64 0), (.i .i64 0), (.f 0), (.f 0)])), none, []⟩, ⟨none, 1001008, .store 4 (.t 5) (.t 14), none, []⟩, ⟨(some 6), 8, .mv (.t 15), none, []⟩])
  (.seq (.ops [⟨(some 17), 19, .mv (.t 0), none, []⟩, ⟨(some 18), 20, .load true 4 (.t 3), none, []⟩, ⟨(some 19), 21, .call 16 [((.t 18), 0)], none, []⟩, ⟨(some 20), 22, .call 28 [((.t 17), 0), ((.t 19), 0)], none, []⟩, ⟨(some 16), 18, .mv (.t 20), none, []⟩, ⟨(some 21), 23, .ext 0 (.t 16), none, []⟩, ⟨(some 22), 24, .ext 1 (.t 16), none, []⟩, ⟨(some 7), 9, .box 4 (.c (.ag [(.i .i64 0), (.i .i64 0), (.f 0), (.f 0)])), none, []⟩, ⟨none, 1002008, .store 4 (.t 7) (.t 21), none, []⟩, ⟨(some 8), 10, .mv (.t 22), none, []⟩])
  (.seq (.seq (.ops [⟨(some 23), 25, .load true 4 (.t 7), none, []⟩, ⟨(some 24), 26, .load true 4 (.t 5), none, []⟩, ⟨(some 25), 27, .call 22 [((.t 23), 0), ((.t 24), 0)], none, []⟩, ⟨(some 26), 28, .un .not (.t 25), none, []⟩, ⟨(some 27), 29, .mv (.t 26), none, []⟩, ⟨(some 28), 30, .mv (.t 8), (some (27, false)), []⟩, ⟨(some 29), 31, .mv (.t 6), (some (27, false)), []⟩, ⟨(some 30), 32, .bin .neq (.t 28) (.t 29), (some (27, false)), []⟩, ⟨(some 31), 33, .pick (.t 27) (.c (.b true)) (.t 30), none, []⟩])
  (.cond (.t 31)
  (.seq (.ops [⟨(some 4), 6, .mv (.c (.b false)), none, []⟩])
  .ret)
  .skip))
  (.seq (.ops [⟨(some 4), 6, .mv (.c (.b true)), none, []⟩])
  .ret)))))
theorem k8 : compCode Try.prog Try.f8.ntmps Try.f8.body.get! = some c8 := by kernel_rfl
theorem r8 : resTmps Try.prog Try.f8.results.toList = some [.tmp 4] := by kernel_rfl

def realOp (op : Int) (x y : Nat) : ValP × Int :=
  if op = 1 then ((2, 0, fltArith .add x y, 0), 0)
  else if op = 2 then ((2, 0, fltArith .sub x y, 0), 0)
  else if op = 3 then ((2, 0, fltArith .mul x y, 0), 0)
  else if op = 4 then ((2, 0, fltArith .quo x y, 0), 0)
  else if op = 6 then (boolV (FloatKind.f64.format.order x y == some .lt), 0)
  else if op = 7 then (boolV (FloatKind.f64.format.order x y == some .eq), 0)
  else ((0, 0, 0, 0), 1)
theorem w59 (op : Int) (x y : Nat) : Contract Try.prog false 59 [.ro, .ro, .ro] [.i .i64 op, .f x, .f y] [valV (realOp op x y).1, .i .i64 (realOp op x y).2] [] := by
  refine mk_contract [] Try.func59 (c := Try.f59.body.get!) (by kernel_rfl) k59 r59 (of_decide_eq_true rfl) fun _ => ?_
  unfold c59; unfold valV realOp; simp
  by_cases o1 : op = 1
  · simp [o1]
    refine callW_ms [.ro] ?_
    simp
    refine callX_of (w53 _) (by simp) ?_
    simp [valV]
  by_cases o2 : op = 2
  · simp [o2]
    refine callW_ms [.ro] ?_
    simp
    refine callX_of (w53 _) (by simp) ?_
    simp [valV]
  by_cases o3 : op = 3
  · simp [o3]
    refine callW_ms [.ro] ?_
    simp
    refine callX_of (w53 _) (by simp) ?_
    simp [valV]
  by_cases o4 : op = 4
  · simp [o4]
    refine callW_ms [.ro] ?_
    simp
    refine callX_of (w53 _) (by simp) ?_
    simp [valV]
  by_cases o6 : op = 6
  · simp [o6]
    refine callW_ms [.ro] ?_
    simp
    refine callX_of (w54 _) (by simp) ?_
    simp [valV]
  by_cases o7 : op = 7
  · simp [o7]
    refine callW_ms [.ro] ?_
    simp
    refine callX_of (w54 _) (by simp) ?_
    simp [valV]
  simp [o1, o2, o3, o4, o6, o7]
theorem w56 (op : Int) (x y : Nat) : Contract Try.prog false 56 [.ro, .ro, .ro] [.i .i64 op, .f x, .f y] [valV (realOp op x y).1, .i .i64 (realOp op x y).2] [] := by
  refine mk_contract [] Try.func56 (c := Try.f56.body.get!) (by kernel_rfl) k56 r56 (of_decide_eq_true rfl) fun _ => ?_
  unfold c56; unfold valV realOp; simp
  by_cases o1 : op = 1
  · simp [o1]
  by_cases o2 : op = 2
  · simp [o2]
  by_cases o3 : op = 3
  · simp [o3]
  by_cases o4 : op = 4
  · simp [o4]
  by_cases o6 : op = 6
  · simp [o6]
    refine callW_ms [.ro] ?_
    simp
    refine callX_of (w52 _) (by simp) ?_
    simp [valV]
  by_cases o7 : op = 7
  · simp [o7]
    refine callW_ms [.ro] ?_
    simp
    refine callX_of (w52 _) (by simp) ?_
    simp [valV]
  simp [o1, o2, o3, o4, o6, o7]
def pairOp (op : Int) (a b : ValP) : ValP × Int :=
  if op = 1 then ((3, 0, fltArith .add a.2.2.1 b.2.2.1, fltArith .add a.2.2.2 b.2.2.2), 0)
  else if op = 2 then ((3, 0, fltArith .sub a.2.2.1 b.2.2.1, fltArith .sub a.2.2.2 b.2.2.2), 0)
  else if op = 3 then ((3, 0, fltArith .sub (fltArith .mul a.2.2.1 b.2.2.1) (fltArith .mul a.2.2.2 b.2.2.2), fltArith .add (fltArith .mul a.2.2.1 b.2.2.2) (fltArith .mul a.2.2.2 b.2.2.1)), 0)
  else if op = 7 then (boolV (FloatKind.f64.format.order a.2.2.1 b.2.2.1 == some .eq && FloatKind.f64.format.order a.2.2.2 b.2.2.2 == some .eq), 0)
  else ((0, 0, 0, 0), 1)
theorem w60 (op : Int) (a b : ValP) : Contract Try.prog false 60 [.ro, .ro, .ro] [.i .i64 op, valV a, valV b] [valV (pairOp op a b).1, .i .i64 (pairOp op a b).2] [] := by
  refine mk_contract [] Try.func60 (c := Try.f60.body.get!) (by kernel_rfl) k60 r60 (of_decide_eq_true rfl) fun _ => ?_
  unfold c60; unfold valV pairOp; simp
  by_cases o1 : op = 1
  · simp [o1]
  by_cases o2 : op = 2
  · simp [o2]
  by_cases o3 : op = 3
  · simp [o3]
  by_cases o7 : op = 7
  · simp [o7]
    cases h : FloatKind.f64.format.order a.2.2.1 b.2.2.1 == some .eq
    · simp [h]
      refine callW_ms [.ro] ?_
      simp
      refine callX_of (w54 _) (by simp) ?_
      simp [valV]
    · simp [h]
      refine callW_ms [.ro] ?_
      simp
      refine callX_of (w54 _) (by simp) ?_
      simp [valV]
  simp [o1, o2, o3, o7]
theorem w57 (op : Int) (a b : ValP) : Contract Try.prog false 57 [.ro, .ro, .ro] [.i .i64 op, valV a, valV b] [valV (pairOp op a b).1, .i .i64 (pairOp op a b).2] [] := by
  refine mk_contract [] Try.func57 (c := Try.f57.body.get!) (by kernel_rfl) k57 r57 (of_decide_eq_true rfl) fun _ => ?_
  unfold c57; unfold valV pairOp; simp
  by_cases o1 : op = 1
  · simp [o1]
  by_cases o2 : op = 2
  · simp [o2]
  by_cases o3 : op = 3
  · simp [o3]
  by_cases o7 : op = 7
  · simp [o7]
    cases h : FloatKind.f64.format.order a.2.2.1 b.2.2.1 == some .eq
    · simp [h]
      refine callW_ms [.ro] ?_
      simp
      refine callX_of (w52 _) (by simp) ?_
      simp [valV]
    · simp [h]
      refine callW_ms [.ro] ?_
      simp
      refine callX_of (w52 _) (by simp) ?_
      simp [valV]
  simp [o1, o2, o3, o7]
def boolOp (op a b : Int) : ValP × Int :=
  if op = 7 then (boolV (decide (a = b)), 0)
  else if op = 8 then (boolV (decide (a = 1 ∧ b = 1)), 0)
  else if op = 9 then (boolV (decide (a = 1 ∨ b = 1)), 0)
  else ((0, 0, 0, 0), 1)
theorem w61 (op a b : Int) (ha : a = 0 ∨ a = 1) (hb : b = 0 ∨ b = 1) : Contract Try.prog false 61 [.ro, .ro, .ro] [.i .i64 op, .i .i64 a, .i .i64 b] [valV (boolOp op a b).1, .i .i64 (boolOp op a b).2] [] := by
  refine mk_contract [] Try.func61 (c := Try.f61.body.get!) (by kernel_rfl) k61 r61 (of_decide_eq_true rfl) fun _ => ?_
  unfold c61; unfold valV boolOp; simp
  by_cases o7 : op = 7
  · simp [o7]
    refine callW_ms [.ro] ?_
    simp
    refine callX_of (w54 _) (by simp) ?_
    simp [valV]
  by_cases o8 : op = 8
  · simp [o8]
    have e : decide (IntKind.i64.wrap (((a % 2 ^ IntKind.i64.bits).toNat &&& (b % 2 ^ IntKind.i64.bits).toNat : Nat) : Int) = 1) = decide (a = 1 ∧ b = 1) := by
      rcases ha with rfl | rfl <;> rcases hb with rfl | rfl <;> decide
    rw [e]
    refine callW_ms [.ro] ?_
    simp
    refine callX_of (w54 _) (by simp) ?_
    simp [valV]
  by_cases o9 : op = 9
  · simp [o9]
    have e : decide (IntKind.i64.wrap (((a % 2 ^ IntKind.i64.bits).toNat ||| (b % 2 ^ IntKind.i64.bits).toNat : Nat) : Int) = 1) = decide (a = 1 ∨ b = 1) := by
      rcases ha with rfl | rfl <;> rcases hb with rfl | rfl <;> decide
    rw [e]
    refine callW_ms [.ro] ?_
    simp
    refine callX_of (w54 _) (by simp) ?_
    simp [valV]
  simp [o7, o8, o9]
def opF (op : Int) (a b : ValP) : ValP × Int :=
  if ValOkP a ∧ ValOkP b ∧ a.1 = b.1 then
    (if a.1 = 1 then intOp op a.2.1 b.2.1 else if a.1 = 2 then realOp op a.2.2.1 b.2.2.1 else if a.1 = 3 then pairOp op a b else boolOp op a.2.1 b.2.1)
  else ((0, 0, 0, 0), 1)
theorem ok_bool {v : ValP} (h : ValOkP v) (h1 : ¬ v.1 = 1) (h2 : ¬ v.1 = 2) (h3 : ¬ v.1 = 3) : v.1 = 4 ∧ (v.2.1 = 0 ∨ v.2.1 = 1) := by
  unfold ValOkP at h
  rcases h with h | h | h | h
  · exact absurd h.1 h1
  · exact absurd h.1 h2
  · exact absurd h.1 h3
  · exact ⟨h.1, h.2.1⟩
theorem w30 (op : Int) (a b : ValP) : Contract Try.prog false 30 [.ro, .ro, .ro] [.i .i64 op, valV a, valV b] [valV (opF op a b).1, .i .i64 (opF op a b).2] [] := by
  refine mk_contract [] Try.func30 (c := Try.f30.body.get!) (by kernel_rfl) k30 r30 (of_decide_eq_true rfl) fun _ => ?_
  unfold c30; unfold valV opF; simp
  by_cases h1 : ValOkP a
  · refine callW_ms [.ro] ?_
    simp [valV]
    refine callX_of ((w19 a).t h1) (by simp) ?_
    simp
    by_cases h2 : ValOkP b
    · refine callW_ms [.ro] ?_
      simp [valV]
      refine callX_of ((w19 b).t h2) (by simp) ?_
      simp
      by_cases h3 : a.1 = b.1
      · simp [h3]
        by_cases k1 : b.1 = 1
        · simp [k1]
          refine callW_ms [.ro, .ro, .ro] ?_
          simp [valV]
          refine callX_of (w58 _ _ _) (by simp) ?_
          simp [valV, h1, h2, h3, k1]
        by_cases k2 : b.1 = 2
        · simp [k2]
          refine callW_ms [.ro, .ro, .ro] ?_
          simp [valV]
          refine callX_of (w59 _ _ _) (by simp) ?_
          simp [valV, h1, h2, h3, k2]
        by_cases k3 : b.1 = 3
        · simp [k3]
          refine callW_ms [.ro, .ro, .ro] ?_
          simp
          refine callX_of (w60 op (3, a.2) (3, b.2)) (by simp) ?_
          simp [valV, h1, h2, h3, k3, pairOp]
        obtain ⟨-, hb⟩ := ok_bool h2 k1 k2 k3
        obtain ⟨-, ha⟩ := ok_bool h1 (by rw [h3]; exact k1) (by rw [h3]; exact k2) (by rw [h3]; exact k3)
        simp [k1, k2, k3]
        refine callW_ms [.ro, .ro, .ro] ?_
        simp
        refine callX_of (w61 op _ _ ha hb) (by simp) ?_
        simp [valV, h1, h2, h3, k1, k2, k3]
      · simp [h3]
    · refine callW_ms [.ro] ?_
      simp [valV]
      refine callX_of ((w19 b).f h2) (by simp) ?_
      simp [h2]
  · refine callW_ms [.ro] ?_
    simp [valV]
    refine callX_of ((w19 a).f h1) (by simp) ?_
    simp [h1]
theorem w29 (op : Int) (a b : ValP) (ha : valOkF a) (hb : valOkF b) (hr : i64in a.2.1) : Contract Try.prog false 29 [.ro, .ro, .ro] [.i .i64 op, valV a, valV b] [valV (opF op a b).1, .i .i64 (opF op a b).2] [] := by
  refine mk_contract [] Try.func29 (c := Try.f29.body.get!) (by kernel_rfl) k29 r29 (of_decide_eq_true rfl) fun _ => ?_
  unfold c29; unfold valV opF; simp
  by_cases h1 : ValOkP a
  · refine callW_ms [.ro] ?_
    simp [valV]
    refine callX_of ((w18 a ha).t h1) (by simp) ?_
    simp
    by_cases h2 : ValOkP b
    · refine callW_ms [.ro] ?_
      simp [valV]
      refine callX_of ((w18 b hb).t h2) (by simp) ?_
      simp
      by_cases h3 : a.1 = b.1
      · simp [h3]
        by_cases k1 : b.1 = 1
        · simp [k1]
          refine callW_ms [.ro, .ro, .ro] ?_
          simp [valV]
          refine callX_of (w55 _ _ _ hr) (by simp) ?_
          simp [valV, h1, h2, h3, k1]
        by_cases k2 : b.1 = 2
        · simp [k2]
          refine callW_ms [.ro, .ro, .ro] ?_
          simp [valV]
          refine callX_of (w56 _ _ _) (by simp) ?_
          simp [valV, h1, h2, h3, k2]
        by_cases k3 : b.1 = 3
        · simp [k3]
          refine callW_ms [.ro, .ro, .ro] ?_
          simp
          refine callX_of (w57 op (3, a.2) (3, b.2)) (by simp) ?_
          simp [valV, h1, h2, h3, k3, pairOp]
        obtain ⟨-, hb'⟩ := ok_bool h2 k1 k2 k3
        obtain ⟨-, ha'⟩ := ok_bool h1 (by rw [h3]; exact k1) (by rw [h3]; exact k2) (by rw [h3]; exact k3)
        simp [k1, k2, k3]
        by_cases o7 : op = 7
        · simp [o7]
          refine callW_ms [.ro] ?_
          simp
          refine callX_of (w52 _) (by simp) ?_
          simp [valV, h1, h2, h3, k1, k2, k3, boolOp]
        by_cases o8 : op = 8
        · simp [o8]
          by_cases a1 : a.2.1 = 1
          · simp [a1]
            refine callW_ms [.ro] ?_
            simp
            refine callX_of (w52 _) (by simp) ?_
            simp [valV, h1, h2, h3, k1, k2, k3, boolOp, a1]
          · simp [a1]
            refine callW_ms [.ro] ?_
            simp
            refine callX_of (w52 _) (by simp) ?_
            simp [valV, h1, h2, h3, k1, k2, k3, boolOp, a1]
        by_cases o9 : op = 9
        · simp [o9]
          by_cases a1 : a.2.1 = 1
          · simp [a1]
            refine callW_ms [.ro] ?_
            simp
            refine callX_of (w52 _) (by simp) ?_
            simp [valV, h1, h2, h3, k1, k2, k3, boolOp, a1]
          · simp [a1]
            refine callW_ms [.ro] ?_
            simp
            refine callX_of (w52 _) (by simp) ?_
            simp [valV, h1, h2, h3, k1, k2, k3, boolOp, a1]
        simp [o7, o8, o9, h1, h2, h3, k1, k2, k3, boolOp]
      · simp [h3]
    · refine callW_ms [.ro] ?_
      simp [valV]
      refine callX_of ((w18 b hb).f h2) (by simp) ?_
      simp [h2]
  · refine callW_ms [.ro] ?_
    simp [valV]
    refine callX_of ((w18 a ha).f h1) (by simp) ?_
    simp [h1]
theorem w9 (op : Int) (a b : ValP) (ha : valOkF a) (hb : valOkF b) (hr : i64in a.2.1) : Contract Try.prog false 9 [.ro, .ro, .ro] [.i .i64 op, valV a, valV b] [.b true] [] := by
  refine mk_contract [] Try.func9 (c := Try.f9.body.get!) (by kernel_rfl) k9 r9 (of_decide_eq_true rfl) fun _ => ?_
  unfold c9; unfold valV; simp
  have hE := W22r (opF op a b).1
  refine callW_ms [.ro] ?_
  simp [valV]
  refine callX_of (w16 a) (by simp) ?_
  simp [valV]
  refine callW_ms [.ro] ?_
  simp [valV]
  refine callX_of (w16 b) (by simp) ?_
  simp [valV]
  refine callW_ms [.ro, .ro, .ro] ?_
  simp [valV]
  refine callX_of (w29 op a b ha hb hr) (by simp) ?_
  simp [valV]
  refine callW_ms [.ro] ?_
  simp [valV]
  refine callX_of (w16 a) (by simp) ?_
  simp [valV]
  refine callW_ms [.ro] ?_
  simp [valV]
  refine callX_of (w16 b) (by simp) ?_
  simp [valV]
  refine callW_ms [.ro, .ro, .ro] ?_
  simp [valV]
  refine callX_of (w30 op a b) (by simp) ?_
  simp [valV]
  refine callW_ms [.ro, .ro] ?_
  simp
  refine callX_of hE (by simp) ?_
  simp
def turnF (op : Int) (a : ValP) : ValP × Int :=
  if ValOkP a then
    (if op = 1 ∧ a.1 = 1 then ((1, IntKind.i64.wrap (0 - a.2.1), 0, 0), 0)
    else if op = 1 ∧ a.1 = 2 then ((2, 0, canon (Op.negFloat .f64 a.2.2.1), 0), 0)
    else if op = 1 ∧ a.1 = 3 then ((3, 0, canon (Op.negFloat .f64 a.2.2.1), canon (Op.negFloat .f64 a.2.2.2)), 0)
    else if op = 2 ∧ a.1 = 4 then (boolV (decide (a.2.1 = 0)), 0)
    else if op = 3 ∧ a.1 = 3 then ((2, 0, a.2.2.1, 0), 0)
    else if op = 4 ∧ a.1 = 3 then ((2, 0, a.2.2.2, 0), 0)
    else if op = 5 ∧ a.1 = 1 then ((2, 0, canon (FloatKind.f64.nearest a.2.1), 0), 0)
    else if op = 6 ∧ a.1 = 3 then ((2, 0, fltArith .add (fltArith .mul a.2.2.1 a.2.2.1) (fltArith .mul a.2.2.2 a.2.2.2), 0), 0)
    else ((0, 0, 0, 0), 1))
  else ((0, 0, 0, 0), 1)
set_option maxRecDepth 100000 in
theorem w27 (op : Int) (a : ValP) (ha : valOkF a) : Contract Try.prog false 27 [.ro, .ro] [.i .i64 op, valV a] [valV (turnF op a).1, .i .i64 (turnF op a).2] [] := by
  refine mk_contract [] Try.func27 (c := Try.f27.body.get!) (by kernel_rfl) k27 r27 (of_decide_eq_true rfl) fun _ => ?_
  unfold c27; unfold valV turnF; simp
  by_cases h1 : ValOkP a
  · refine callW_ms [.ro] ?_
    simp [valV]
    refine callX_of ((w18 a ha).t h1) (by simp) ?_
    simp
    by_cases o1 : op = 1
    · by_cases k1 : a.1 = 1
      · simp [h1, o1, k1]
      by_cases k2 : a.1 = 2
      · simp [h1, o1, k1, k2]
      by_cases k3 : a.1 = 3
      · simp [h1, o1, k1, k2, k3]
      simp [h1, o1, k1, k2, k3]
    by_cases o2 : op = 2
    · by_cases k4 : a.1 = 4
      · simp [h1, o2, k4]
        refine callW_ms [.ro] ?_
        simp
        refine callX_of (w52 _) (by simp) ?_
        simp [valV, h1]
      simp [h1, o2, k4]
    by_cases o3 : op = 3
    · by_cases k3 : a.1 = 3 <;> simp [h1, o3, k3]
    by_cases o4 : op = 4
    · by_cases k3 : a.1 = 3 <;> simp [h1, o4, k3]
    by_cases o5 : op = 5
    · by_cases k1 : a.1 = 1 <;> simp [h1, o5, k1]
    by_cases o6 : op = 6
    · by_cases k3 : a.1 = 3 <;> simp [h1, o6, k3]
    simp [h1, o1, o2, o3, o4, o5, o6]
  · refine callW_ms [.ro] ?_
    simp [valV]
    refine callX_of ((w18 a ha).f h1) (by simp) ?_
    simp [h1]
set_option maxRecDepth 100000 in
theorem w28 (op : Int) (a : ValP) : Contract Try.prog false 28 [.ro, .ro] [.i .i64 op, valV a] [valV (turnF op a).1, .i .i64 (turnF op a).2] [] := by
  refine mk_contract [] Try.func28 (c := Try.f28.body.get!) (by kernel_rfl) k28 r28 (of_decide_eq_true rfl) fun _ => ?_
  unfold c28; unfold valV turnF; simp
  by_cases h1 : ValOkP a
  · refine callW_ms [.ro] ?_
    simp [valV]
    refine callX_of ((w19 a).t h1) (by simp) ?_
    simp
    by_cases o1 : op = 1
    · by_cases k1 : a.1 = 1
      · simp [h1, o1, k1]
      by_cases k2 : a.1 = 2
      · simp [h1, o1, k1, k2]
        refine callW_ms [.ro] ?_
        simp
        refine callX_of (w53 _) (by simp) ?_
        simp [valV, h1]
      by_cases k3 : a.1 = 3
      · simp [h1, o1, k1, k2, k3]
      simp [h1, o1, k1, k2, k3]
    by_cases o2 : op = 2
    · by_cases k4 : a.1 = 4
      · simp [h1, o2, k4]
        refine callW_ms [.ro] ?_
        simp
        refine callX_of (w54 _) (by simp) ?_
        simp [valV, h1]
      simp [h1, o2, k4]
    by_cases o3 : op = 3
    · by_cases k3 : a.1 = 3
      · simp [h1, o3, k3]
        refine callW_ms [.ro] ?_
        simp
        refine callX_of (w53 _) (by simp) ?_
        simp [valV, h1]
      simp [h1, o3, k3]
    by_cases o4 : op = 4
    · by_cases k3 : a.1 = 3
      · simp [h1, o4, k3]
        refine callW_ms [.ro] ?_
        simp
        refine callX_of (w53 _) (by simp) ?_
        simp [valV, h1]
      simp [h1, o4, k3]
    by_cases o5 : op = 5
    · by_cases k1 : a.1 = 1
      · simp [h1, o5, k1]
        refine callW_ms [.ro] ?_
        simp
        refine callX_of (w53 _) (by simp) ?_
        simp [valV, h1]
      simp [h1, o5, k1]
    by_cases o6 : op = 6
    · by_cases k3 : a.1 = 3
      · simp [h1, o6, k3]
        refine callW_ms [.ro] ?_
        simp
        refine callX_of (w53 _) (by simp) ?_
        simp [valV, h1]
      simp [h1, o6, k3]
    simp [h1, o1, o2, o3, o4, o5, o6]
  · refine callW_ms [.ro] ?_
    simp [valV]
    refine callX_of ((w19 a).f h1) (by simp) ?_
    simp [h1]
set_option maxRecDepth 100000 in
theorem w8 (op : Int) (a : ValP) (ha : valOkF a) : Contract Try.prog false 8 [.ro, .ro] [.i .i64 op, valV a] [.b true] [] := by
  refine mk_contract [] Try.func8 (c := Try.f8.body.get!) (by kernel_rfl) k8 r8 (of_decide_eq_true rfl) fun _ => ?_
  unfold c8; unfold valV; simp
  have hE := W22r (turnF op a).1
  refine callW_ms [.ro] ?_
  simp [valV]
  refine callX_of (w16 a) (by simp) ?_
  simp [valV]
  refine callW_ms [.ro, .ro] ?_
  simp [valV]
  refine callX_of (w27 op a ha) (by simp) ?_
  simp [valV]
  refine callW_ms [.ro] ?_
  simp [valV]
  refine callX_of (w16 a) (by simp) ?_
  simp [valV]
  refine callW_ms [.ro, .ro] ?_
  simp [valV]
  refine callX_of (w28 op a) (by simp) ?_
  simp [valV]
  refine callW_ms [.ro, .ro] ?_
  simp
  refine callX_of hE (by simp) ?_
  simp
end Go.Proofs.YtpoalnlkhlchbaaT
