/- Texts of this session's own, one behind the other: Kt3, Kt4, Ku4, Ku5, Kt5, Kt6, Kt7, Kt8. -/
import Derived.Test.YtehmdblkkpdmoaaGreatPk12
namespace Go.Proofs.YtehmdblkkpdmoaaGreatT
set_option linter.unusedVariables false
set_option linter.unusedSimpArgs false
open Go
def c137 : TCode := (.seq (.ops [⟨(some 2), 4, .mv (.c (.i .i64 0)), none, []⟩])
  (.seq (.cond (.c (.b false))
  (.seq (.ops [⟨(some 3), 5, .mv (.t 0), none, []⟩, ⟨(some 4), 6, .toInt .u32 (.t 3), none, []⟩, ⟨(some 5), 7, .call 148 [((.t 4), 0)], none, []⟩, ⟨(some 2), 4, .mv (.t 5), none, []⟩])
  .ret)
  .skip)
  (.seq (.ops [⟨(some 6), 8, .mv (.t 0), none, []⟩, ⟨(some 7), 9, .call 149 [((.t 6), 0)], none, []⟩, ⟨(some 2), 4, .mv (.t 7), none, []⟩])
  .ret)))
theorem k137 : compCode Tryz.prog Tryz.f137.ntmps Tryz.f137.body.get! = some c137 := by kernel_rfl
theorem r137 : resTmps Tryz.prog Tryz.f137.results.toList = some [.tmp 2] := by kernel_rfl
def c149 : TCode := (.seq (.ops [⟨(some 2), 4, .mv (.c (.i .i64 0)), none, []⟩])
  (.seq (.seq (.ops [⟨(some 3), 5, .mv (.t 0), none, []⟩, ⟨(some 4), 6, .bin .geq (.t 3) (.c (.i .u64 4294967296)), none, []⟩])
  (.cond (.t 4)
  (.seq (.ops [⟨(some 5), 7, .mv (.t 0), none, []⟩, ⟨(some 6), 8, .bin .shr (.t 5) (.c (.i .u64 32)), none, []⟩, ⟨(some 0), 2, .mv (.t 6), none, []⟩])
  (.ops [⟨(some 2), 4, .mv (.c (.i .i64 32)), none, []⟩]))
  .skip))
  (.seq (.seq (.ops [⟨(some 7), 9, .mv (.t 0), none, []⟩, ⟨(some 8), 10, .bin .geq (.t 7) (.c (.i .u64 65536)), none, []⟩])
  (.cond (.t 8)
  (.seq (.ops [⟨(some 9), 11, .mv (.t 0), none, []⟩, ⟨(some 10), 12, .bin .shr (.t 9) (.c (.i .u64 16)), none, []⟩, ⟨(some 0), 2, .mv (.t 10), none, []⟩])
  (.ops [⟨(some 11), 13, .mv (.t 2), none, []⟩, ⟨(some 12), 14, .bin .add (.t 11) (.c (.i .i64 16)), none, []⟩, ⟨(some 2), 4, .mv (.t 12), none, []⟩]))
  .skip))
  (.seq (.seq (.ops [⟨(some 13), 15, .mv (.t 0), none, []⟩, ⟨(some 14), 16, .bin .geq (.t 13) (.c (.i .u64 256)), none, []⟩])
  (.cond (.t 14)
  (.seq (.ops [⟨(some 15), 17, .mv (.t 0), none, []⟩, ⟨(some 16), 18, .bin .shr (.t 15) (.c (.i .u64 8)), none, []⟩, ⟨(some 0), 2, .mv (.t 16), none, []⟩])
  (.ops [⟨(some 17), 19, .mv (.t 2), none, []⟩, ⟨(some 18), 20, .bin .add (.t 17) (.c (.i .i64 8)), none, []⟩, ⟨(some 2), 4, .mv (.t 18), none, []⟩]))
  .skip))
  (.seq (.ops [⟨(some 19), 21, .mv (.t 2), none, []⟩, ⟨(some 20), 22, .mv (.t 0), none, []⟩, ⟨(some 21), 23, .toInt .u8 (.t 20), none, []⟩, ⟨(some 22), 24, .ix (.c (.s ⟨#[0, 1, 2, 2, 3, 3, 3, 3, 4, 4, 4, 4, 4, 4, 4, 4, 5, 5, 5, 5, 5, 5, 5, 5, 5, 5, 5, 5, 5, 5, 5, 5, 6, 6, 6, 6, 6, 6, 6, 6, 6, 6, 6, 6, 6, 6, 6, 6, 6, 6, 6, 6, 6, 6, 6, 6, 6, 6, 6, 6, 6, 6, 6, 6, 7, 7, 7, 7, 7, 7, 7, 7, 7, 7, 7, 7, 7, 7, 7, 7, 7, 7, 7, 7, 7, 7, 7, 7, 7, 7, 7, 7, 7, 7, 7, 7, 7, 7, 7, 7, 7, 7, 7, 7, 7, 7, 7, 7, 7, 7, 7, 7, 7, 7, 7, 7, 7, 7, 7, 7, 7, 7, 7, 7, 7, 7, 7, 7, 8, 8, 8, 8, 8, 8, 8, 8, 8, 8, 8, 8, 8, 8, 8, 8, 8, 8, 8, 8, 8, 8, 8, 8, 8, 8, 8, 8, 8, 8, 8, 8, 8, 8, 8, 8, 8, 8, 8, 8, 8, 8, 8, 8, 8, 8, 8, 8, 8, 8, 8, 8, 8, 8, 8, 8, 8, 8, 8, 8, 8, 8, 8, 8, 8, 8, 8, 8, 8, 8, 8, 8, 8, 8, 8, 8, 8, 8, 8, 8, 8, 8, 8, 8, 8, 8, 8, 8, 8, 8, 8, 8, 8, 8, 8, 8, 8, 8, 8, 8, 8, 8, 8, 8, 8, 8, 8, 8, 8, 8, 8, 8, 8, 8, 8, 8, 8, 8, 8, 8, 8, 8, 8, 8, 8, 8, 8, 8]⟩)) (.t 21), none, []⟩, ⟨(some 23), 25, .toInt .i64 (.t 22), none, []⟩, ⟨(some 24), 26, .bin .add (.t 19) (.t 23), none, []⟩, ⟨(some 2), 4, .mv (.t 24), none, []⟩])
  .ret)))))
theorem k149 : compCode Tryz.prog Tryz.f149.ntmps Tryz.f149.body.get! = some c149 := by kernel_rfl
theorem r149 : resTmps Tryz.prog Tryz.f149.results.toList = some [.tmp 2] := by kernel_rfl
def c140 : TCode := (.seq (.ops [⟨(some 10), 12, .mv (.t 1), none, []⟩, ⟨(some 11), 13, .bin .add (.t 10) (.c (.i .i64 1)), none, []⟩, ⟨(some 8), 10, .mv (.t 11), none, []⟩])
  (.block 0 (.loop (.seq (.seq (.ops [⟨(some 12), 14, .mv (.t 8), none, []⟩, ⟨(some 13), 15, .mv (.t 2), none, []⟩, ⟨(some 14), 16, .bin .lss (.t 12) (.t 13), none, []⟩])
  (.cond (.t 14)
  .skip
  (.exit 0)))
  (.seq (.block 1 (.seq (.ops [⟨(some 17), 19, .mv (.t 8), none, []⟩, ⟨(some 9), 11, .mv (.t 17), none, []⟩])
  (.block 2 (.loop (.seq (.seq (.draw [⟨(some 18), 20, .mv (.t 9), none, []⟩, ⟨(some 19), 21, .mv (.t 1), none, []⟩, ⟨(some 20), 22, .bin .gtr (.t 18) (.t 19), none, []⟩, ⟨(some 21), 23, .mv (.t 20), none, []⟩, ⟨(some 22), 24, .mv (.t 3), (some (21, true)), []⟩, ⟨(some 23), 25, .mv (.t 0), (some (21, true)), []⟩, ⟨(some 24), 26, .mv (.t 9), (some (21, true)), []⟩, ⟨(some 25), 27, .iaddr 5 (.t 23) (.t 24), (some (21, true)), []⟩, ⟨(some 26), 28, .load true 5 (.t 25), (some (21, true)), []⟩, ⟨(some 27), 29, .mv (.t 0), (some (21, true)), []⟩, ⟨(some 28), 30, .mv (.t 9), (some (21, true)), []⟩, ⟨(some 29), 31, .bin .sub (.t 28) (.c (.i .i64 1)), (some (21, true)), []⟩, ⟨(some 30), 32, .iaddr 5 (.t 27) (.t 29), (some (21, true)), []⟩, ⟨(some 31), 33, .load true 5 (.t 30), (some (21, true)), []⟩, ⟨(some 32), 34, .callv (.t 22) [((.t 26), 0), ((.t 31), 0)], (some (21, true)), []⟩, ⟨(some 33), 35, .bin .lss (.t 32) (.c (.i .i64 0)), (some (21, true)), []⟩, ⟨(some 34), 36, .pick (.t 21) (.t 33) (.c (.b false)), none, []⟩])
  (.cond (.t 34)
  .skip
  (.exit 2)))
  (.seq (.block 3 (.draw [⟨(some 37), 39, .mv (.t 0), none, []⟩, ⟨(some 38), 40, .mv (.t 9), none, []⟩, ⟨(some 39), 41, .mv (.t 0), none, []⟩, ⟨(some 40), 42, .mv (.t 9), none, []⟩, ⟨(some 41), 43, .bin .sub (.t 40) (.c (.i .i64 1)), none, []⟩, ⟨(some 42), 44, .mv (.t 0), none, []⟩, ⟨(some 43), 45, .mv (.t 9), none, []⟩, ⟨(some 44), 46, .bin .sub (.t 43) (.c (.i .i64 1)), none, []⟩, ⟨(some 45), 47, .iaddr 5 (.t 42) (.t 44), none, []⟩, ⟨(some 46), 48, .load true 5 (.t 45), none, []⟩, ⟨(some 47), 49, .mv (.t 0), none, []⟩, ⟨(some 48), 50, .mv (.t 9), none, []⟩, ⟨(some 49), 51, .iaddr 5 (.t 47) (.t 48), none, []⟩, ⟨(some 50), 52, .load true 5 (.t 49), none, []⟩, ⟨(some 51), 53, .iaddr 5 (.t 37) (.t 38), none, []⟩, ⟨none, 1006015, .store 5 (.t 51) (.t 46), none, [1000000, 2, 3, 4]⟩, ⟨(some 52), 54, .iaddr 5 (.t 39) (.t 41), none, []⟩, ⟨none, 1006017, .store 5 (.t 52) (.t 50), none, []⟩]))
  (.ops [⟨(some 35), 37, .mv (.t 9), none, []⟩, ⟨(some 36), 38, .bin .sub (.t 35) (.c (.i .i64 1)), none, []⟩, ⟨(some 9), 11, .mv (.t 36), none, []⟩])))))))
  (.ops [⟨(some 15), 17, .mv (.t 8), none, []⟩, ⟨(some 16), 18, .bin .add (.t 15) (.c (.i .i64 1)), none, []⟩, ⟨(some 8), 10, .mv (.t 16), none, []⟩]))))))
theorem k140 : compCode Tryz.prog Tryz.f140.ntmps Tryz.f140.body.get! = some c140 := by kernel_rfl
theorem r140 : resTmps Tryz.prog Tryz.f140.results.toList = some [] := by kernel_rfl
def c136 : TCode := (.seq (.ops [⟨(some 10), 12, .mv (.c (.b true)), none, []⟩])
  (.seq (.ops [⟨(some 11), 13, .mv (.c (.b true)), none, []⟩])
  (.block 0 (.loop (.block 1 (.seq (.ops [⟨(some 21), 23, .mv (.t 2), none, []⟩, ⟨(some 22), 24, .mv (.t 1), none, []⟩, ⟨(some 23), 25, .bin .sub (.t 21) (.t 22), none, []⟩, ⟨(some 12), 14, .mv (.t 23), none, []⟩])
  (.seq (.seq (.ops [⟨(some 24), 26, .mv (.t 12), none, []⟩, ⟨(some 25), 27, .bin .leq (.t 24) (.c (.i .i64 12)), none, []⟩])
  (.cond (.t 25)
  (.seq (.ops [⟨(some 26), 28, .mv (.t 0), none, []⟩, ⟨(some 27), 29, .mv (.t 1), none, []⟩, ⟨(some 28), 30, .mv (.t 2), none, []⟩, ⟨(some 29), 31, .mv (.t 4), none, []⟩, ⟨(some 30), 32, .call 140 [((.t 26), 0), ((.t 27), 0), ((.t 28), 0), ((.t 29), 0)], none, []⟩])
  .ret)
  .skip))
  (.seq (.seq (.ops [⟨(some 31), 33, .mv (.t 3), none, []⟩, ⟨(some 32), 34, .bin .eql (.t 31) (.c (.i .i64 0)), none, []⟩])
  (.cond (.t 32)
  (.seq (.ops [⟨(some 33), 35, .mv (.t 0), none, []⟩, ⟨(some 34), 36, .mv (.t 1), none, []⟩, ⟨(some 35), 37, .mv (.t 2), none, []⟩, ⟨(some 36), 38, .mv (.t 4), none, []⟩, ⟨(some 37), 39, .call 141 [((.t 33), 0), ((.t 34), 0), ((.t 35), 0), ((.t 36), 0)], none, []⟩])
  .ret)
  .skip))
  (.seq (.seq (.ops [⟨(some 38), 40, .mv (.t 10), none, []⟩, ⟨(some 39), 41, .un .not (.t 38), none, []⟩])
  (.cond (.t 39)
  (.seq (.ops [⟨(some 40), 42, .mv (.t 0), none, []⟩, ⟨(some 41), 43, .mv (.t 1), none, []⟩, ⟨(some 42), 44, .mv (.t 2), none, []⟩, ⟨(some 43), 45, .mv (.t 4), none, []⟩, ⟨(some 44), 46, .call 142 [((.t 40), 0), ((.t 41), 0), ((.t 42), 0), ((.t 43), 0)], none, []⟩])
  (.ops [⟨(some 45), 47, .mv (.t 3), none, []⟩, ⟨(some 46), 48, .bin .sub (.t 45) (.c (.i .i64 1)), none, []⟩, ⟨(some 3), 5, .mv (.t 46), none, []⟩]))
  .skip))
  (.seq (.ops [⟨(some 48), 50, .mv (.t 0), none, []⟩, ⟨(some 49), 51, .mv (.t 1), none, []⟩, ⟨(some 50), 52, .mv (.t 2), none, []⟩, ⟨(some 51), 53, .mv (.t 4), none, []⟩, ⟨(some 52), 54, .call 143 [((.t 48), 0), ((.t 49), 0), ((.t 50), 0), ((.t 51), 0)], none, []⟩, ⟨(some 47), 49, .mv (.t 52), none, []⟩, ⟨(some 53), 55, .ext 0 (.t 47), none, []⟩, ⟨(some 54), 56, .ext 1 (.t 47), none, []⟩, ⟨(some 13), 15, .mv (.t 53), none, []⟩, ⟨(some 14), 16, .mv (.t 54), none, []⟩])
  (.seq (.seq (.ops [⟨(some 55), 57, .mv (.t 14), none, []⟩, ⟨(some 56), 58, .bin .eql (.t 55) (.c (.i .i64 2)), none, []⟩])
  (.cond (.t 56)
  (.seq (.ops [⟨(some 57), 59, .mv (.t 0), none, []⟩, ⟨(some 58), 60, .mv (.t 1), none, []⟩, ⟨(some 59), 61, .mv (.t 2), none, []⟩, ⟨(some 60), 62, .mv (.t 4), none, []⟩, ⟨(some 61), 63, .call 144 [((.t 57), 0), ((.t 58), 0), ((.t 59), 0), ((.t 60), 0)], none, []⟩])
  (.seq (.ops [⟨(some 62), 64, .mv (.t 2), none, []⟩, ⟨(some 63), 65, .bin .sub (.t 62) (.c (.i .i64 1)), none, []⟩, ⟨(some 64), 66, .mv (.t 13), none, []⟩, ⟨(some 65), 67, .mv (.t 1), none, []⟩, ⟨(some 66), 68, .bin .sub (.t 64) (.t 65), none, []⟩, ⟨(some 67), 69, .bin .sub (.t 63) (.t 66), none, []⟩, ⟨(some 13), 15, .mv (.t 67), none, []⟩])
  (.ops [⟨(some 14), 16, .mv (.c (.i .i64 1)), none, []⟩])))
  .skip))
  (.seq (.seq (.ops [⟨(some 68), 70, .mv (.t 10), none, []⟩, ⟨(some 69), 71, .mv (.t 68), none, []⟩, ⟨(some 70), 72, .mv (.t 11), (some (69, true)), []⟩, ⟨(some 71), 73, .pick (.t 69) (.t 70) (.c (.b false)), none, []⟩, ⟨(some 72), 74, .mv (.t 71), none, []⟩, ⟨(some 73), 75, .mv (.t 14), (some (72, true)), []⟩, ⟨(some 74), 76, .bin .eql (.t 73) (.c (.i .i64 1)), (some (72, true)), []⟩, ⟨(some 75), 77, .pick (.t 72) (.t 74) (.c (.b false)), none, []⟩])
  (.cond (.t 75)
  (.seq (.ops [⟨(some 76), 78, .mv (.t 0), none, []⟩, ⟨(some 77), 79, .mv (.t 1), none, []⟩, ⟨(some 78), 80, .mv (.t 2), none, []⟩, ⟨(some 79), 81, .mv (.t 4), none, []⟩, ⟨(some 80), 82, .call 145 [((.t 76), 0), ((.t 77), 0), ((.t 78), 0), ((.t 79), 0)], none, []⟩])
  (.cond (.t 80)
  .ret
  .skip))
  .skip))
  (.seq (.seq (.draw [⟨(some 81), 83, .mv (.t 1), none, []⟩, ⟨(some 82), 84, .bin .gtr (.t 81) (.c (.i .i64 0)), none, []⟩, ⟨(some 83), 85, .mv (.t 82), none, []⟩, ⟨(some 84), 86, .mv (.t 4), (some (83, true)), []⟩, ⟨(some 85), 87, .mv (.t 0), (some (83, true)), []⟩, ⟨(some 86), 88, .mv (.t 1), (some (83, true)), []⟩, ⟨(some 87), 89, .bin .sub (.t 86) (.c (.i .i64 1)), (some (83, true)), []⟩, ⟨(some 88), 90, .iaddr 5 (.t 85) (.t 87), (some (83, true)), []⟩, ⟨(some 89), 91, .load true 5 (.t 88), (some (83, true)), []⟩, ⟨(some 90), 92, .mv (.t 0), (some (83, true)), []⟩, ⟨(some 91), 93, .mv (.t 13), (some (83, true)), []⟩, ⟨(some 92), 94, .iaddr 5 (.t 90) (.t 91), (some (83, true)), []⟩, ⟨(some 93), 95, .load true 5 (.t 92), (some (83, true)), []⟩, ⟨(some 94), 96, .callv (.t 84) [((.t 89), 0), ((.t 93), 0)], (some (83, true)), []⟩, ⟨(some 95), 97, .bin .lss (.t 94) (.c (.i .i64 0)), (some (83, true)), []⟩, ⟨(some 96), 98, .un .not (.t 95), (some (83, true)), []⟩, ⟨(some 97), 99, .pick (.t 83) (.t 96) (.c (.b false)), none, []⟩])
  (.cond (.t 97)
  (.seq (.ops [⟨(some 98), 100, .mv (.t 0), none, []⟩, ⟨(some 99), 101, .mv (.t 1), none, []⟩, ⟨(some 100), 102, .mv (.t 2), none, []⟩, ⟨(some 101), 103, .mv (.t 13), none, []⟩, ⟨(some 102), 104, .mv (.t 4), none, []⟩, ⟨(some 103), 105, .call 146 [((.t 98), 0), ((.t 99), 0), ((.t 100), 0), ((.t 101), 0), ((.t 102), 0)], none, []⟩, ⟨(some 15), 17, .mv (.t 103), none, []⟩])
  (.seq (.ops [⟨(some 104), 106, .mv (.t 15), none, []⟩, ⟨(some 1), 3, .mv (.t 104), none, []⟩])
  (.exit 1)))
  .skip))
  (.seq (.ops [⟨(some 106), 108, .mv (.t 0), none, []⟩, ⟨(some 107), 109, .mv (.t 1), none, []⟩, ⟨(some 108), 110, .mv (.t 2), none, []⟩, ⟨(some 109), 111, .mv (.t 13), none, []⟩, ⟨(some 110), 112, .mv (.t 4), none, []⟩, ⟨(some 111), 113, .call 147 [((.t 106), 0), ((.t 107), 0), ((.t 108), 0), ((.t 109), 0), ((.t 110), 0)], none, []⟩, ⟨(some 105), 107, .mv (.t 111), none, []⟩, ⟨(some 112), 114, .ext 0 (.t 105), none, []⟩, ⟨(some 113), 115, .ext 1 (.t 105), none, []⟩, ⟨(some 16), 18, .mv (.t 112), none, []⟩, ⟨(some 17), 19, .mv (.t 113), none, []⟩])
  (.seq (.ops [⟨(some 114), 116, .mv (.t 17), none, []⟩, ⟨(some 11), 13, .mv (.t 114), none, []⟩])
  (.seq (.ops [⟨(some 115), 117, .mv (.t 16), none, []⟩, ⟨(some 116), 118, .mv (.t 1), none, []⟩, ⟨(some 117), 119, .bin .sub (.t 115) (.t 116), none, []⟩, ⟨(some 118), 120, .mv (.t 2), none, []⟩, ⟨(some 119), 121, .mv (.t 16), none, []⟩, ⟨(some 120), 122, .bin .sub (.t 118) (.t 119), none, []⟩, ⟨(some 18), 20, .mv (.t 117), none, []⟩, ⟨(some 19), 21, .mv (.t 120), none, []⟩])
  (.seq (.ops [⟨(some 121), 123, .mv (.t 12), none, []⟩, ⟨(some 122), 124, .bin .quo (.t 121) (.c (.i .i64 8)), none, []⟩, ⟨(some 20), 22, .mv (.t 122), none, []⟩])
  (.seq (.ops [⟨(some 123), 125, .mv (.t 18), none, []⟩, ⟨(some 124), 126, .mv (.t 19), none, []⟩, ⟨(some 125), 127, .bin .lss (.t 123) (.t 124), none, []⟩])
  (.cond (.t 125)
  (.seq (.ops [⟨(some 126), 128, .mv (.t 18), none, []⟩, ⟨(some 127), 129, .mv (.t 20), none, []⟩, ⟨(some 128), 130, .bin .geq (.t 126) (.t 127), none, []⟩, ⟨(some 10), 12, .mv (.t 128), none, []⟩])
  (.seq (.ops [⟨(some 129), 131, .mv (.t 0), none, []⟩, ⟨(some 130), 132, .mv (.t 1), none, []⟩, ⟨(some 131), 133, .mv (.t 16), none, []⟩, ⟨(some 132), 134, .mv (.t 3), none, []⟩, ⟨(some 133), 135, .mv (.t 4), none, []⟩, ⟨(some 134), 136, .call 136 [((.t 129), 0), ((.t 130), 0), ((.t 131), 0), ((.t 132), 0), ((.t 133), 0)], none, []⟩])
  (.ops [⟨(some 135), 137, .mv (.t 16), none, []⟩, ⟨(some 136), 138, .bin .add (.t 135) (.c (.i .i64 1)), none, []⟩, ⟨(some 1), 3, .mv (.t 136), none, []⟩])))
  (.seq (.ops [⟨(some 137), 139, .mv (.t 19), none, []⟩, ⟨(some 138), 140, .mv (.t 20), none, []⟩, ⟨(some 139), 141, .bin .geq (.t 137) (.t 138), none, []⟩, ⟨(some 10), 12, .mv (.t 139), none, []⟩])
  (.seq (.ops [⟨(some 140), 142, .mv (.t 0), none, []⟩, ⟨(some 141), 143, .mv (.t 16), none, []⟩, ⟨(some 142), 144, .bin .add (.t 141) (.c (.i .i64 1)), none, []⟩, ⟨(some 143), 145, .mv (.t 2), none, []⟩, ⟨(some 144), 146, .mv (.t 3), none, []⟩, ⟨(some 145), 147, .mv (.t 4), none, []⟩, ⟨(some 146), 148, .call 136 [((.t 140), 0), ((.t 142), 0), ((.t 143), 0), ((.t 144), 0), ((.t 145), 0)], none, []⟩])
  (.ops [⟨(some 147), 149, .mv (.t 16), none, []⟩, ⟨(some 2), 4, .mv (.t 147), none, []⟩]))))))))))))))))))))))
theorem k136 : compCode Tryz.prog Tryz.f136.ntmps Tryz.f136.body.get! = some c136 := by kernel_rfl
theorem r136 : resTmps Tryz.prog Tryz.f136.results.toList = some [] := by kernel_rfl
def c127 : TCode := (.seq (.ops [⟨(some 5), 7, .mv (.t 0), none, []⟩, ⟨(some 6), 8, .len false (.t 5), none, []⟩, ⟨(some 4), 6, .mv (.t 6), none, []⟩])
  (.ops [⟨(some 7), 9, .mv (.t 0), none, []⟩, ⟨(some 8), 10, .mv (.t 4), none, []⟩, ⟨(some 9), 11, .mv (.t 4), none, []⟩, ⟨(some 10), 12, .toInt .u64 (.t 9), none, []⟩, ⟨(some 11), 13, .call 137 [((.t 10), 0)], none, []⟩, ⟨(some 12), 14, .mv (.t 1), none, []⟩, ⟨(some 13), 15, .call 136 [((.t 7), 0), ((.c (.i .i64 0)), 0), ((.t 8), 0), ((.t 11), 0), ((.t 12), 0)], none, []⟩]))
theorem k127 : compCode Tryz.prog Tryz.f127.ntmps Tryz.f127.body.get! = some c127 := by kernel_rfl
theorem r127 : resTmps Tryz.prog Tryz.f127.results.toList = some [] := by kernel_rfl
def c128 : TCode := (.seq (.ops [⟨(some 2), 4, .box 5 (.t 0), none, []⟩, ⟨(some 3), 5, .box 5 (.t 1), none, []⟩, ⟨(some 4), 6, .mv (.c (.i .i64 0)), none, []⟩])
  (.seq (.ops [⟨(some 5), 7, .faddr 0 1 (.t 2), none, []⟩, ⟨(some 6), 8, .load false 1 (.t 5), none, []⟩, ⟨(some 7), 9, .faddr 0 1 (.t 3), none, []⟩, ⟨(some 8), 10, .load false 1 (.t 7), none, []⟩, ⟨(some 9), 11, .bin .sub (.t 6) (.t 8), none, []⟩, ⟨(some 4), 6, .mv (.t 9), none, []⟩])
  .ret))
theorem k128 : compCode Tryz.prog Tryz.f128.ntmps Tryz.f128.body.get! = some c128 := by kernel_rfl
theorem r128 : resTmps Tryz.prog Tryz.f128.results.toList = some [.tmp 4] := by kernel_rfl
def c103 : TCode := (.seq (.ops [⟨(some 2), 4, .mv (.c (.sl true 5 [])), none, []⟩])
  (.seq (.ops [⟨(some 4), 6, .bslice 5 0 [(.i .i64 0), (.i .i64 0), (.i .i64 0), (.f 0), (.f 0)] [], none, []⟩, ⟨(some 5), 7, .mv (.t 0), none, []⟩, ⟨(some 6), 8, .app 5 40 (.t 4) (.t 5), none, []⟩, ⟨(some 3), 5, .mv (.t 6), none, []⟩])
  (.seq (.ops [⟨(some 7), 9, .mv (.t 3), none, []⟩, ⟨(some 8), 10, .call 127 [((.t 7), 0), ((.c (.fn 128 [])), 0)], none, []⟩])
  (.seq (.ops [⟨(some 9), 11, .mv (.t 3), none, []⟩, ⟨(some 2), 4, .mv (.t 9), none, []⟩])
  .ret))))
theorem k103 : compCode Tryz.prog Tryz.f103.ntmps Tryz.f103.body.get! = some c103 := by kernel_rfl
theorem r103 : resTmps Tryz.prog Tryz.f103.results.toList = some [.tmp 2] := by kernel_rfl
theorem W102f (g f : List Int) (ts : List TableP) (rs : List ValP) (L : List CellP) (e : Int × Int) (hg : g.length ≤ 2^36) (hf : f.length ≤ 2^36) (hrs : rs.length ≤ 2^36) (E : EvenP ts) (hL : L.length ≤ 2^30) (h40 : ts.length ≤ 40) (hn : fullT ts (colsOf L)) : Contract Tryz.prog false 102 [.own, .ro, .ro] [.po true [.sl true 1 (g.map iT), .sl true 1 (f.map iT), .sl true 3 (ts.map tbO), .sl true 4 (rs.map vT)], .ag (eT e), .sl false 5 (L.map clT)] [.b false] [some (.po true [.sl true 1 (g.map iT), .sl true 1 (f.map iT), .sl true 3 (ts.map tbO), .sl true 4 (rs.map vT)])] := by
  refine mk_contract [some [(1, 0)]] Tryz.func102 (c := Tryz.f102.body.get!) (by kernel_rfl) k102 r102 (of_decide_eq_true rfl) fun _ => ?_
  have hcl : (colsOf L).length = L.length := by simp [colsOf]
  have hT := w80 (g, f, ts, rs) (colsOf L) ⟨hg, hf, ⟨by have := E.n; simp only; omega, E.okT⟩, hrs⟩ (by omega)
  simp only at hT
  have hno : tabIx ts (colsOf L) < 0 := by have := hn.1; omega
  have hl40 : (ts.length : Int) = 40 := by have := hn.2; omega
  unfold c102; simp
  refine twp_forR L.length (fun j s => ∃ Q : List Int, isTk (colsOf L) j Q ∧ Q.length = j ∧ s.t 0 = .pt [(1, 0)] 0 0 ∧ s.t 2 = .sl false 5 (L.map clT) ∧ s.t 4 = .pt [(6, 0)] 0 0 ∧ s.t 7 = .rf [(27, 0)] 0 Q.length ∧ s.t 15 = .sl false 5 (L.map clT) ∧ s.t 16 = .i .i64 L.length ∧ s.t 17 = .i .i64 j ∧ s.H = lk [(1, [.po true [.sl true 1 (g.map iT), .sl true 1 (f.map iT), .sl true 3 (ts.map tbO), .sl true 4 (rs.map vT)]]), (6, [.po true [.i .i64 e.1, .i .i64 e.2]]), (27, [.sl true 1 (Q.map iT)])]) [11, 26] [(16, 27)] (by simp) (by simp) ?_ ?_
  · refine ⟨[], rfl, rfl, ?_⟩
    simp
  · rintro j s hj ⟨Q, hQ, hQl, q0, q2, q4, q7, q15, q16, q17, qH⟩
    rw [nf_of qH]
    have hw : IntKind.i64.wrap ((j : Int) + 1) = j + 1 := wrap_id (by omega) (by omega)
    cases hb9 : decide (j < L.length)
    rotate_left
    · have hlt := of_decide_eq_true hb9
      obtain ⟨x, hx⟩ := get_some hlt
      have hx2 : (colsOf L)[j]? = some x.1 := by simp [colsOf, hx]
      simp [q0, q2, q4, q7, q15, q16, q17, hb9, hx, hw]
      refine ⟨by omega, hlt, Q ++ [x.1], hQ.snoc hx2, by simp [hQl], by simp, ?_⟩
      simp
    · have hge := of_decide_eq_false hb9
      obtain rfl : j = L.length := by omega
      have hQ2 : Q = colsOf L := hQ.trans (List.take_of_length_le (by omega))
      subst hQ2
      simp [q0, q2, q4, q7, q15, q16, q17, hb9]
      refine callW_ms [.ro, .ro] ?_
      simp
      refine callX_of hT (by simp) ?_
      simp [q0, q2, q4, q7, q15, q16, q17, hno, hl40]
def bitsTab : ByteArray := ⟨#[0, 1, 2, 2, 3, 3, 3, 3, 4, 4, 4, 4, 4, 4, 4, 4, 5, 5, 5, 5, 5, 5, 5, 5, 5, 5, 5, 5, 5, 5, 5, 5, 6, 6, 6, 6, 6, 6, 6, 6, 6, 6, 6, 6, 6, 6, 6, 6, 6, 6, 6, 6, 6, 6, 6, 6, 6, 6, 6, 6, 6, 6, 6, 6, 7, 7, 7, 7, 7, 7, 7, 7, 7, 7, 7, 7, 7, 7, 7, 7, 7, 7, 7, 7, 7, 7, 7, 7, 7, 7, 7, 7, 7, 7, 7, 7, 7, 7, 7, 7, 7, 7, 7, 7, 7, 7, 7, 7, 7, 7, 7, 7, 7, 7, 7, 7, 7, 7, 7, 7, 7, 7, 7, 7, 7, 7, 7, 7, 8, 8, 8, 8, 8, 8, 8, 8, 8, 8, 8, 8, 8, 8, 8, 8, 8, 8, 8, 8, 8, 8, 8, 8, 8, 8, 8, 8, 8, 8, 8, 8, 8, 8, 8, 8, 8, 8, 8, 8, 8, 8, 8, 8, 8, 8, 8, 8, 8, 8, 8, 8, 8, 8, 8, 8, 8, 8, 8, 8, 8, 8, 8, 8, 8, 8, 8, 8, 8, 8, 8, 8, 8, 8, 8, 8, 8, 8, 8, 8, 8, 8, 8, 8, 8, 8, 8, 8, 8, 8, 8, 8, 8, 8, 8, 8, 8, 8, 8, 8, 8, 8, 8, 8, 8, 8, 8, 8, 8, 8, 8, 8, 8, 8, 8, 8, 8, 8, 8, 8, 8, 8, 8, 8, 8, 8, 8, 8]⟩
theorem ixV2_of {st : St} {K : Eff → Prop} {o : Option UInt8} {b : UInt8} (h : o = some b) (hk : K (Go.Proofs.YtehmdblkkpdmoaaGreatT.val st (.i .u8 b.toNat))) : ixV2 st K o := by
  rw [h]; exact hk
set_option maxRecDepth 100000 in
theorem w149 (n : Nat) (hn : n ≤ 12) : ∃ x : Int, (True) ∧ Contract Tryz.prog false 149 [.ro] [.i .u64 n] [.i .i64 x] [] := by
  refine mk_contractE [] Tryz.func149 (c := Tryz.f149.body.get!) (by kernel_rfl) k149 r149 (of_decide_eq_true rfl) ?_
  have h1 : ¬ (4294967296 : Int) ≤ n := by omega
  have h2 : ¬ (65536 : Int) ≤ n := by omega
  have h3 : ¬ (256 : Int) ≤ n := by omega
  unfold c149; simp [h1, h2, h3]
  obtain ⟨b, hb⟩ : ∃ b : UInt8, (if 0 ≤ IntKind.u8.wrap (n : Int) then bitsTab[(IntKind.u8.wrap (n : Int)).toNat]? else none) = some b := by
    have : ∀ m, m ≤ 12 → (if 0 ≤ IntKind.u8.wrap ((m : Nat) : Int) then bitsTab[(IntKind.u8.wrap ((m : Nat) : Int)).toNat]? else none).isSome = true := by decide +kernel
    exact Option.isSome_iff_exists.1 (this n hn)
  refine ixV2_of hb ?_
  simp
  refine exK_of (IntKind.i64.wrap (IntKind.i64.wrap b.toNat)) trivial ?_
  simp
set_option maxRecDepth 100000 in
theorem w137 (n : Nat) (hn : n ≤ 12) : ∃ x : Int, (True) ∧ Contract Tryz.prog false 137 [.ro] [.i .u64 n] [.i .i64 x] [] := by
  refine mk_contractE [] Tryz.func137 (c := Tryz.f137.body.get!) (by kernel_rfl) k137 r137 (of_decide_eq_true rfl) ?_
  unfold c137; simp
  obtain ⟨y, -, hC⟩ := w149 n hn
  refine callW_ms [.ro] ?_
  simp
  refine callX_of hC (by simp) ?_
  simp
  refine exK_of y trivial ?_
  simp
theorem risen1 (x y : CellP) : Contract Tryz.prog false 128 [.ro, .ro] [.ag (clT x), .ag (clT y)] [.i .i64 (IntKind.i64.wrap (x.1 - y.1))] [] := by
  refine mk_contract [] Tryz.func128 (c := Tryz.f128.body.get!) (by kernel_rfl) k128 r128 (of_decide_eq_true rfl) fun _ => ?_
  unfold c128; simp
end Go.Proofs.YtehmdblkkpdmoaaGreatT


namespace Go.Proofs.YtehmdblkkpdmoaaGreatT
set_option linter.unusedVariables false
set_option linter.unusedSimpArgs false
open Go
def upC (M : List CellP) : Prop := M.Pairwise fun a b => a.1 < b.1
def smC (M : List CellP) : Prop := ∀ y ∈ M, 0 ≤ y.1 ∧ y.1 ≤ 1000000
theorem upC.at {M : List CellP} (h : upC M) {i j : Nat} {x y : CellP} (hx : M[i]? = some x) (hy : M[j]? = some y) (hij : i < j) : x.1 < y.1 := by
  obtain ⟨h1, rfl⟩ := List.getElem?_eq_some_iff.1 hx
  obtain ⟨h2, rfl⟩ := List.getElem?_eq_some_iff.1 hy
  exact List.pairwise_iff_getElem.1 h i j h1 h2 hij
theorem cmpC {x y : CellP} (hx : 0 ≤ x.1 ∧ x.1 ≤ 1000000) (hy : 0 ≤ y.1 ∧ y.1 ≤ 1000000) : IntKind.i64.wrap (x.1 - y.1) = x.1 - y.1 := wrap_id (by omega) (by omega)
def atPl (M : List CellP) (c : CellP) (p : Nat) (D : List CellP) : Prop := D = M.take p ++ c :: M.drop p ∧ ∀ y ∈ M.drop p, c.1 < y.1
theorem atPl.len {M D : List CellP} {c : CellP} {p : Nat} (h : atPl M c p D) : D.length = M.length + 1 := by rw [h.1]; simp; omega
theorem atPl.at {M D : List CellP} {c : CellP} {p : Nat} (h : atPl M c p D) (hp : p ≤ M.length) : D[p]? = some c := by
  rw [h.1, List.getElem?_append_right (by simp; omega)]
  have : p - (M.take p).length = 0 := by simp; omega
  rw [this]; rfl
theorem atPl.pre {M D : List CellP} {c z : CellP} {p : Nat} (h : atPl M c (p + 1) D) (hz : M[p]? = some z) : D[p]? = some z := by
  have hl := (List.getElem?_eq_some_iff.1 hz).1
  rw [h.1, List.getElem?_append_left (by simp; omega)]
  simp [hz]
theorem atPl.step {M D : List CellP} {c z : CellP} {p : Nat} (h : atPl M c (p + 1) D) (hz : M[p]? = some z) (hc : c.1 < z.1) : atPl M c p ((D.set (p + 1) z).set p c) := by
  have hl := (List.getElem?_eq_some_iff.1 hz).1
  have hd : M.drop p = z :: M.drop (p + 1) := by rw [List.drop_eq_getElem_cons hl, (List.getElem?_eq_some_iff.1 hz).2]
  refine ⟨?_, fun y hy => ?_⟩
  · rw [h.1, take_snoc hz, hd]
    apply List.ext_getElem?
    intro i
    have h1 : (M.take p).length = p := by simp; omega
    generalize M.take p = A at *
    generalize M.drop (p + 1) = B at *
    simp only [List.append_assoc, List.singleton_append]
    rcases Nat.lt_trichotomy i p with hi | hi | hi
    · simp [List.getElem?_set, List.getElem?_append_left (show i < A.length by omega), show ¬ p = i by omega, show ¬ p + 1 = i by omega]
    · subst hi
      simp [List.getElem?_set, ← h1]
    · rcases Nat.lt_or_ge i (p + 2) with hi2 | hi2
      · have : i = p + 1 := by omega
        subst this
        simp [List.getElem?_set, ← h1, List.getElem?_append_right]
      · obtain ⟨m, rfl⟩ : ∃ m, i = p + 2 + m := ⟨i - p - 2, by omega⟩
        rw [List.getElem?_set_ne (by omega), List.getElem?_set_ne (by omega), List.getElem?_append_right (by omega), List.getElem?_append_right (by omega)]
        have : p + 2 + m - A.length = m + 2 := by omega
        rw [this]; rfl
  · rw [hd] at hy
    rcases List.mem_cons.1 hy with rfl | hy
    · exact hc
    · exact h.2 y hy
theorem atPl.done {M D : List CellP} {c : CellP} {p : Nat} (h : atPl M c p D) (hM : upC M) (hp : p = 0 ∨ ∃ (q : Nat) (z : CellP), p = q + 1 ∧ M[q]? = some z ∧ ¬ c.1 < z.1) : D = insC c M := by
  have hn : noGt c.1 (M.take p) := by
    intro y hy
    rcases hp with rfl | ⟨q, z, rfl, hz, hc⟩
    · simp at hy
    · obtain ⟨i, hi⟩ := List.mem_iff_getElem?.1 hy
      have hil := (List.getElem?_eq_some_iff.1 hi).1
      rw [List.length_take] at hil
      rw [List.getElem?_take, if_pos (by omega)] at hi
      rcases Nat.lt_or_ge i q with h1 | h1
      · have := hM.at hi hz h1; omega
      · have : i = q := by omega
        subst this
        rw [hz] at hi; cases hi; exact hc
  have e : insC c M = M.take p ++ insC c (M.drop p) := by
    rw [← insC_all hn, List.take_append_drop]
  rw [h.1, e]
  congr 1
  cases hd : M.drop p with
  | nil => rfl
  | cons x xs => simp [insC, h.2 x (by rw [hd]; simp)]
theorem mod_clT {l : List CellP} {k : Nat} {y : CellP} (z : CellP) (hy : l[k]? = some y) :
    (((((l.map clT).modify k fun e => e.modify 0 fun x => TV.i .i64 z.1).modify k fun e => e.modify 1 fun x => TV.i .i64 z.2.1).modify k fun e => e.modify 2 fun x => TV.i .i64 z.2.2.1).modify k fun e => e.modify 3 fun x => TV.f z.2.2.2.1).modify k (fun e => e.modify 4 fun x => TV.f z.2.2.2.2) = (l.set k z).map clT := by
  rw [mod_mod, mod_mod, mod_mod, mod_mod]
  exact map_mod hy rfl
set_option maxHeartbeats 4000000 in
set_option maxRecDepth 100000 in
theorem w140 (M : List CellP) (c : CellP) (hl : M.length ≤ 2^30) (hu : upC M) (hs : smC M) (hc : 0 ≤ c.1 ∧ c.1 ≤ 1000000) : Contract Tryz.prog false 140 [.own, .ro, .ro, .ro] [.sl true 5 ((M ++ [c]).map clT), .i .i64 0, .i .i64 ((M.length + 1 : Nat) : Int), .fn 128 []] [] [some (.sl true 5 ((insC c M).map clT))] := by
  refine mk_contract [some [(1, 0)]] Tryz.func140 (c := Tryz.f140.body.get!) (by kernel_rfl) k140 r140 (of_decide_eq_true rfl) fun _ => ?_
  obtain ⟨R, hR⟩ : ∃ R, R = insC c M := ⟨_, rfl⟩
  rw [← hR]
  have hw1 : IntKind.i64.wrap 1 = 1 := by decide
  unfold c140; simp [hw1]
  refine twp_for M.length (fun j s => ∃ D : List CellP, (j < M.length → D = M ++ [c]) ∧ (j = M.length → D = R) ∧ D.length = M.length + 1 ∧ s.t 0 = .rf [(1, 0)] 0 D.length ∧ s.t 1 = .i .i64 0 ∧ s.t 2 = .i .i64 ((M.length + 1 : Nat) : Int) ∧ s.t 3 = .fn 128 [] ∧ s.t 8 = .i .i64 ((j + 1 : Nat) : Int) ∧ s.H = lk [(1, [.sl true 5 (D.map clT)])]) [] (by simp) ?_ ?_
  · refine ⟨M ++ [c], fun _ => rfl, fun h => ?_, by simp, ?_⟩
    · have : M = [] := List.eq_nil_of_length_eq_zero h.symm
      subst this; rw [hR]; rfl
    · simp
  · rintro j s hj ⟨D, hD1, hD2, hDl, q0, q1, q2, q3, q8, qH⟩
    rw [nf_of qH]
    have hw : IntKind.i64.wrap (((j + 1 : Nat) : Int) + 1) = ((j + 1 + 1 : Nat) : Int) := by rw [wrap_id (by omega) (by omega)]; omega
    cases hb9 : decide (((j + 1 : Nat) : Int) < ((M.length + 1 : Nat) : Int))
    · have hge := of_decide_eq_false hb9
      obtain rfl : j = M.length := by omega
      have := hD2 rfl
      subst this
      simp [q0, q1, q2, q3, q8, hb9]
      skip
    · have hlt := of_decide_eq_true hb9
      have hjl : j < M.length := by omega
      have hDe := hD1 hjl
      simp [q0, q1, q2, q3, q8, hb9]
      refine ⟨fun _ => ?_, fun h => by omega⟩
      subst hDe
      by_cases hlast : j + 1 < M.length
      · obtain ⟨x, hx⟩ := get_some hlast
        obtain ⟨y, hy⟩ := get_some hjl
        have hxy := hu.at hy hx (by omega)
        have hcm := cmpC (hs x (List.mem_of_getElem? hx)) (hs y (List.mem_of_getElem? hy))
        have hnl : ¬ (x.1 - y.1 < 0) := by omega
        have hx2 : (M ++ [c])[j + 1]? = some x := by rw [List.getElem?_append_left hlast]; exact hx
        have hy2 : (M ++ [c])[j]? = some y := by rw [List.getElem?_append_left hjl]; exact hy
        obtain ⟨D, hD⟩ : ∃ D, D = M ++ [c] := ⟨_, rfl⟩
        have hDl3 : D.length = M.length + 1 := by rw [hD]; exact hDl
        rw [← hD] at hx2 hy2 q0 qH
        rw [← hD]
        refine twp_for 0 (fun m s => s.t 0 = .rf [(1, 0)] 0 D.length ∧ s.t 1 = .i .i64 0 ∧ s.t 2 = .i .i64 ((M.length + 1 : Nat) : Int) ∧ s.t 3 = .fn 128 [] ∧ s.t 8 = .i .i64 ((j + 1 : Nat) : Int) ∧ s.t 9 = .i .i64 ((j + 1 : Nat) : Int) ∧ s.H = lk [(1, [.sl true 5 (D.map clT)])]) [] (by simp) ?_ ?_
        · simp [q0, q1, q2, q3, q8]
        · rintro m s hm ⟨q0, q1, q2, q3, q8, q9, qH⟩
          rw [nf_of qH]
          have hw2 : IntKind.i64.wrap (j : Int) = (j : Int) := wrap_id (by omega) (by omega)
          have h0 : (0 : Int) < ((j + 1 : Nat) : Int) := by omega
          simp [q0, q1, q2, q3, q8, q9, hx2, hy2, hw2, h0]
          refine ⟨by omega, by omega, by omega, by kernel_rfl, ?_⟩
          refine callW_ms [.ro, .ro] ?_
          simp
          refine callX_of (risen1 x y) (by simp) ?_
          simp [hcm, hnl, q0, q1, q2, q3, q8, q9, forK]
          exact ⟨hjl, D, fun h => by rw [hD], fun h => absurd h (by omega), hDl3, rfl, by rw [wrap_id (by omega) (by omega)], rfl⟩
      · have hjM : j + 1 = M.length := by omega
        obtain ⟨D0, hD0⟩ : ∃ D, D = M ++ [c] := ⟨_, rfl⟩
        rw [← hD0]
        have hat0 : atPl M c M.length D0 := ⟨by rw [hD0, List.take_length, List.drop_length], fun y hy => by rw [List.drop_length] at hy; cases hy⟩
        rw [← hD0] at q0 hDl
        refine twp_for M.length (fun m s => ∃ (D : List CellP) (p : Nat), atPl M c p D ∧ p + m = M.length ∧ s.t 0 = .rf [(1, 0)] 0 (M.length + 1) ∧ s.t 1 = .i .i64 0 ∧ s.t 2 = .i .i64 ((M.length + 1 : Nat) : Int) ∧ s.t 3 = .fn 128 [] ∧ s.t 8 = .i .i64 ((j + 1 : Nat) : Int) ∧ s.t 9 = .i .i64 (p : Int) ∧ s.H = lk [(1, [.sl true 5 (D.map clT)])]) [] (by simp) ?_ ?_
        · refine ⟨D0, M.length, hat0, by omega, ?_⟩
          simp [q0, q1, q2, q3, q8, hDl, hjM]
          omega
        · rintro m s hm ⟨D, p, hat, hpm, q0, q1, q2, q3, q8, q9, qH⟩
          rw [nf_of qH]
          have hDl2 := hat.len
          cases p with
          | zero =>
            have hdn := hat.done hu (.inl rfl)
            simp [q0, q1, q2, q3, q8, q9]
            exact ⟨hjl, D, fun h => absurd h (by omega), fun _ => by rw [hdn, hR], hDl2, hDl2.symm, by rw [wrap_id (by omega) (by omega)], rfl⟩
          | succ p =>
            obtain ⟨z, hz⟩ : ∃ z, M[p]? = some z := get_some (by omega)
            have hc1 := hat.at (by omega)
            have hz1 := hat.pre hz
            have hcm := cmpC hc (hs z (List.mem_of_getElem? hz))
            have hw2 : IntKind.i64.wrap (p : Int) = (p : Int) := wrap_id (by omega) (by omega)
            simp [q0, q1, q2, q3, q8, q9, hc1, hz1, hw2]
            refine ⟨by omega, by omega, by omega, by kernel_rfl, ?_⟩
            refine callW_ms [.ro, .ro] ?_
            simp
            refine callX_of (risen1 c z) (by simp) ?_
            by_cases hcz : c.1 < z.1
            · have hl2 : c.1 - z.1 < 0 := by omega
              simp [hcm, hl2, q0, q1, q2, q3, q8, q9, hc1, hz1, hw2, forK]
              have hpl : p < M.length := (List.getElem?_eq_some_iff.1 hz).1
              refine ⟨by omega, by omega, by omega, by omega, by omega, by omega, by omega, (D.set (p + 1) z).set p c, p, hat.step hz hcz, by omega, rfl, ?_⟩
              rw [mod_clT z hc1, mod_clT c (y := z) (by rw [List.getElem?_set_ne (by omega)]; exact hz1)]
            · have hl2 : ¬ (c.1 - z.1 < 0) := by omega
              have hdn := hat.done hu (.inr ⟨p, z, rfl, hz, hcz⟩)
              simp [hcm, hl2, q0, q1, q2, q3, q8, q9, forK]
              exact ⟨hjl, D, fun h => absurd h (by omega), fun _ => by rw [hdn, hR], hDl2, hDl2.symm, by rw [wrap_id (by omega) (by omega)], rfl⟩
set_option maxHeartbeats 2000000 in
set_option maxRecDepth 100000 in
theorem w136 (M : List CellP) (c : CellP) (b : Int) (hl : M.length < 12) (hu : upC M) (hs : smC M) (hc : 0 ≤ c.1 ∧ c.1 ≤ 1000000) : Contract Tryz.prog false 136 [.own, .ro, .ro, .ro, .ro] [.sl true 5 ((M ++ [c]).map clT), .i .i64 0, .i .i64 ((M.length + 1 : Nat) : Int), .i .i64 b, .fn 128 []] [] [some (.sl true 5 ((insC c M).map clT))] := by
  refine mk_contract [some [(1, 0)]] Tryz.func136 (c := Tryz.f136.body.get!) (by kernel_rfl) k136 r136 (of_decide_eq_true rfl) fun _ => ?_
  have hI := w140 M c (by omega) hu hs hc
  have hw : IntKind.i64.wrap ((M.length : Int) + 1) = M.length + 1 := wrap_id (by omega) (by omega)
  have h12 : ((M.length : Int) + 1) ≤ 12 := by omega
  have hRD : (insC c M).length = (M ++ [c]).length := by rw [insC_len]; simp
  generalize M ++ [c] = D at *
  generalize insC c M = R at *
  unfold c136; simp
  refine twp_for 0 (fun m s => s.t 0 = .rf [(1, 0)] 0 D.length ∧ s.t 1 = .i .i64 0 ∧ s.t 2 = .i .i64 ((M.length + 1 : Nat) : Int) ∧ s.t 4 = .fn 128 [] ∧ s.H = lk [(1, [.sl true 5 (D.map clT)])]) [] (by simp) ?_ ?_
  · simp
  · rintro m s hm ⟨q0, q1, q2, q4, qH⟩
    rw [nf_of qH]
    simp [q0, q1, q2, q4, hw, h12]
    refine callW_ms [.own, .ro, .ro, .ro] ?_
    simp
    refine callX_of hI (by simp) ?_
    simp [hRD]
set_option maxRecDepth 100000 in
theorem w127 (M : List CellP) (c : CellP) (hl : M.length < 12) (hu : upC M) (hs : smC M) (hc : 0 ≤ c.1 ∧ c.1 ≤ 1000000) : Contract Tryz.prog false 127 [.own, .ro] [.sl true 5 ((M ++ [c]).map clT), .fn 128 []] [] [some (.sl true 5 ((insC c M).map clT))] := by
  refine mk_contract [some [(1, 0)]] Tryz.func127 (c := Tryz.f127.body.get!) (by kernel_rfl) k127 r127 (of_decide_eq_true rfl) fun _ => ?_
  obtain ⟨b, -, hB⟩ := w137 (M.length + 1) (by omega)
  have hP := w136 M c b hl hu hs hc
  have hw : IntKind.u64.wrap ((M.length : Int) + 1) = M.length + 1 := by
    have : ∀ m, m < 12 → IntKind.u64.wrap ((m : Nat) + 1) = ((m : Nat) : Int) + 1 := by decide
    exact this _ hl
  have hRD : (insC c M).length = (M ++ [c]).length := by rw [insC_len]; simp
  have hDl : (M ++ [c]).length = M.length + 1 := by simp
  generalize M ++ [c] = D at *
  generalize insC c M = R at *
  unfold c127; simp [hDl, hw]
  refine callW_ms [.ro] ?_
  simp
  refine callX_of hB (by simp) ?_
  simp
  refine callW_ms [.own, .ro, .ro, .ro, .ro] ?_
  simp [hDl]
  refine callX_of hP (by simp) ?_
  simp [hRD, hDl]
set_option maxRecDepth 100000 in
theorem w103 (M : List CellP) (c : CellP) (hl : M.length < 12) (hu : upC M) (hs : smC M) (hc : 0 ≤ c.1 ∧ c.1 ≤ 1000000) : Contract Tryz.prog false 103 [.ro] [.sl false 5 ((M ++ [c]).map clT)] [.sl true 5 ((insC c M).map clT)] [] := by
  refine mk_contract [] Tryz.func103 (c := Tryz.f103.body.get!) (by kernel_rfl) k103 r103 (of_decide_eq_true rfl) fun _ => ?_
  have hS := w127 M c hl hu hs hc
  have hDl : (M ++ [c]).length = M.length + 1 := by simp
  have hRD : (insC c M).length = (M ++ [c]).length := by rw [insC_len]; simp
  generalize M ++ [c] = D at *
  generalize insC c M = R at *
  unfold c103; simp [hDl]
  refine ⟨by omega, ?_⟩
  refine callW_ms [.own, .ro] ?_
  simp [hDl]
  refine callX_of hS (by simp) ?_
  simp [hRD, hDl]
end Go.Proofs.YtehmdblkkpdmoaaGreatT


namespace Go.Proofs.YtehmdblkkpdmoaaGreatT
set_option linter.unusedVariables false
set_option linter.unusedSimpArgs false
open Go
theorem leaveL_le {α : Type} (l : List α) (k : Nat) : (leaveL l k).length ≤ l.length := by
  unfold leaveL; split <;> simp
theorem sumN_app {α : Type} (c : α → Nat) : ∀ (A B : List α), sumN c (A ++ B) = sumN c A + sumN c B
  | [], B => by simp [sumN]
  | a :: A, B => by simp only [List.cons_append, sumN, sumN_app c A B]; omega
theorem sumN_map {α β : Type} (c : β → Nat) (f : α → β) : ∀ (A : List α), sumN c (A.map f) = sumN (fun x => c (f x)) A
  | [] => rfl
  | a :: A => by simp only [List.map_cons, sumN, sumN_map c f A]
theorem leaveT_n (t : TableP) (k : Nat) : nTb (leaveT t k) ≤ nTb t := by
  unfold nTb leaveT
  have h1 := leaveL_le t.2.1 k
  have h2 : sumN nV (t.2.2.map fun v => leaveL v k) ≤ sumN nV t.2.2 := by
    rw [sumN_map]
    exact sumN_le (fun v => by unfold nV; have := leaveL_le v k; omega) _
  simp only; omega
end Go.Proofs.YtehmdblkkpdmoaaGreatT


namespace Go.Proofs.YtehmdblkkpdmoaaGreatT
set_option linter.unusedVariables false
set_option linter.unusedSimpArgs false
open Go
end Go.Proofs.YtehmdblkkpdmoaaGreatT


namespace Go.Proofs.YtehmdblkkpdmoaaGreatT
set_option linter.unusedVariables false
set_option linter.unusedSimpArgs false
open Go
def c51 : TCode := (.seq (.ops [⟨(some 4), 6, .box 2 (.t 1), none, []⟩, ⟨(some 5), 7, .box 5 (.t 2), none, []⟩, ⟨(some 6), 8, .mv (.c (.i .i64 0)), none, []⟩])
  (.seq (.seq (.draw [⟨(some 10), 12, .mv (.t 0), none, []⟩, ⟨(some 11), 13, .nilck (.t 10), none, []⟩, ⟨(some 12), 14, .faddr 0 2 (.t 11), none, []⟩, ⟨(some 13), 15, .load true 2 (.t 4), none, []⟩, ⟨(some 14), 16, .call 83 [((.t 12), 0), ((.t 13), 0)], none, []⟩, ⟨(some 15), 17, .un .not (.t 14), none, []⟩])
  (.cond (.t 15)
  (.seq (.ops [⟨(some 6), 8, .mv (.c (.i .i64 2)), none, []⟩])
  .ret)
  .skip))
  (.seq (.draw [⟨(some 17), 19, .mv (.t 0), none, []⟩, ⟨(some 18), 20, .nilck (.t 17), none, []⟩, ⟨(some 19), 21, .load true 4 (.t 18), none, []⟩, ⟨(some 20), 22, .load true 2 (.t 4), none, []⟩, ⟨(some 21), 23, .call 85 [((.t 19), 0), ((.t 20), 0)], none, []⟩, ⟨(some 16), 18, .mv (.t 21), none, []⟩, ⟨(some 22), 24, .ext 0 (.t 16), none, []⟩, ⟨(some 23), 25, .ext 1 (.t 16), none, []⟩, ⟨(some 7), 9, .mv (.t 22), none, []⟩, ⟨(some 8), 10, .mv (.t 23), none, []⟩])
  (.seq (.seq (.draw [⟨(some 24), 26, .mv (.t 0), none, []⟩, ⟨(some 25), 27, .nilck (.t 24), none, []⟩, ⟨(some 26), 28, .faddr 2 1 (.t 25), none, []⟩, ⟨(some 27), 29, .load false 1 (.t 26), none, []⟩, ⟨(some 28), 30, .mv (.t 7), none, []⟩, ⟨(some 29), 31, .iaddr 3 (.t 27) (.t 28), none, []⟩, ⟨(some 30), 32, .faddr 0 1 (.t 29), none, []⟩, ⟨(some 31), 33, .load false 1 (.t 30), none, []⟩, ⟨(some 32), 34, .faddr 0 1 (.t 5), none, []⟩, ⟨(some 33), 35, .load false 1 (.t 32), none, []⟩, ⟨(some 34), 36, .call 101 [((.t 31), 0), ((.t 33), 0)], none, []⟩, ⟨(some 9), 11, .mv (.t 34), none, []⟩])
  (.seq (.ops [⟨(some 35), 37, .mv (.t 9), none, []⟩, ⟨(some 36), 38, .bin .geq (.t 35) (.c (.i .i64 0)), none, []⟩])
  (.cond (.t 36)
  (.seq (.draw [⟨(some 37), 39, .mv (.t 0), none, []⟩, ⟨(some 38), 40, .nilck (.t 37), none, []⟩, ⟨(some 39), 41, .faddr 2 1 (.t 38), none, []⟩, ⟨(some 40), 42, .load false 1 (.t 39), none, []⟩, ⟨(some 41), 43, .mv (.t 7), none, []⟩, ⟨(some 42), 44, .iaddr 3 (.t 40) (.t 41), none, []⟩, ⟨(some 43), 45, .faddr 2 1 (.t 42), none, []⟩, ⟨(some 44), 46, .load false 1 (.t 43), none, []⟩, ⟨(some 45), 47, .mv (.t 9), none, []⟩, ⟨(some 46), 48, .iaddr 1 (.t 44) (.t 45), none, []⟩, ⟨(some 47), 49, .load false 1 (.t 46), none, []⟩, ⟨(some 48), 50, .mv (.t 8), none, []⟩, ⟨(some 49), 51, .faddr 1 4 (.t 5), none, []⟩, ⟨(some 50), 52, .load true 4 (.t 49), none, []⟩, ⟨(some 51), 53, .iaddr 4 (.t 47) (.t 48), none, []⟩, ⟨none, 1006015, .store 4 (.t 51) (.t 50), none, []⟩])
  (.seq (.ops [⟨(some 6), 8, .mv (.c (.i .i64 0)), none, []⟩])
  .ret))
  .skip)))
  (.seq (.seq (.draw [⟨(some 52), 54, .mv (.t 0), none, []⟩, ⟨(some 53), 55, .load true 2 (.t 4), none, []⟩, ⟨(some 54), 56, .mv (.t 0), none, []⟩, ⟨(some 55), 57, .mv (.t 7), none, []⟩, ⟨(some 56), 58, .mv (.t 8), none, []⟩, ⟨(some 57), 59, .call 104 [((.t 54), 4), ((.t 55), 0), ((.t 56), 0)], none, [0, 1]⟩, ⟨(some 58), 60, .load true 5 (.t 5), none, [5]⟩, ⟨(some 59), 61, .bslice 5 1 [(.i .i64 0), (.i .i64 0), (.i .i64 0), (.f 0), (.f 0)] [(0, (.t 58))], none, [0, 1, 2, 3, 4, 5]⟩, ⟨(some 60), 62, .app 5 40 (.t 57) (.t 59), none, [0, 1]⟩, ⟨(some 61), 63, .call 103 [((.t 60), 0)], none, [0, 1]⟩, ⟨(some 62), 64, .call 102 [((.t 52), 4), ((.t 53), 0), ((.t 61), 0)], none, []⟩, ⟨(some 63), 65, .un .not (.t 62), none, []⟩])
  (.cond (.t 63)
  (.seq (.ops [⟨(some 6), 8, .mv (.c (.i .i64 3)), none, []⟩])
  .ret)
  .skip))
  (.seq (.ops [⟨(some 64), 66, .mv (.t 0), none, []⟩, ⟨(some 65), 67, .mv (.t 7), none, []⟩, ⟨(some 66), 68, .mv (.t 8), none, []⟩, ⟨(some 67), 69, .call 84 [((.t 64), 4), ((.t 65), 0), ((.t 66), 0)], none, []⟩])
  (.seq (.ops [⟨(some 6), 8, .mv (.c (.i .i64 0)), none, []⟩])
  .ret)))))))
theorem k51 : compCode Tryz.prog Tryz.f51.ntmps Tryz.f51.body.get! = some c51 := by kernel_rfl
theorem r51 : resTmps Tryz.prog Tryz.f51.results.toList = some [.tmp 6] := by kernel_rfl
theorem join_at {ts : List TableP} {i : Nat} {t : TableP} {e : Int × Int} {L : List CellP} (ht : ts[i]? = some t) (hne : t.1 ≠ colsOf L) : (joinTs ts e L)[i]? = some t := by
  have hil := (List.getElem?_eq_some_iff.1 ht).1
  unfold joinTs tabW
  by_cases hix : 0 ≤ tabIx ts (colsOf L)
  · rw [if_pos hix]
    obtain ⟨j, T2, h1, h2, h3⟩ := tabIx_at hix
    have hij : j ≠ i := by rintro rfl; rw [ht] at h2; cases h2; exact hne h3
    rw [h1]
    simp only [Int.toNat_natCast]
    simp [List.getElem?_modify, hij, ht]
  · rw [if_neg hix]
    simp only
    rw [List.getElem?_modify, List.getElem?_append_left hil, ht]
    simp [show ¬ ts.length = i by omega]
theorem joinTs_len (ts : List TableP) (e : Int × Int) (L : List CellP) : (joinTs ts e L).length ≤ ts.length + 1 := by
  unfold joinTs tabW
  split <;> simp
theorem upC_row {t : TableP} {k : Nat} (hs : t.2.2.length = t.1.length) (h : ris t.1) : upC (rowL t k) := by
  have e : (rowL t k).map (fun x => x.1) = t.1 := by
    apply List.ext_getElem?
    intro i
    simp only [rowL, List.getElem?_map, List.getElem?_zipWith]
    cases h1 : t.1[i]? with
    | none => simp
    | some x =>
      obtain ⟨vs, hvs⟩ : ∃ vs, t.2.2[i]? = some vs := get_some (by rw [hs]; exact (List.getElem?_eq_some_iff.1 h1).1)
      simp [hvs]
  unfold upC
  have h2 : (t.1).Pairwise (fun a b => a < b) := h
  rw [← e, List.pairwise_map] at h2
  exact h2
theorem smC_row {t : TableP} {k n : Nat} (hn : n ≤ 12) (h : colsP t.1 n) : smC (rowL t k) := by
  intro y hy
  obtain ⟨i, hi⟩ := List.mem_iff_getElem?.1 hy
  simp only [rowL, List.getElem?_zipWith] at hi
  cases h1 : t.1[i]? with
  | none => simp [h1] at hi
  | some x =>
    cases h2 : t.2.2[i]? with
    | none => simp [h1, h2] at hi
    | some vs =>
      simp [h1, h2] at hi
      subst hi
      have := h.1 x (List.mem_of_getElem? h1)
      simp only; omega
theorem cols_lt {l : List Int} {n : Nat} {x : Int} (h : colsP l n) (hx : 0 ≤ x ∧ x ≤ (n : Int) - 1) (hn : ¬ 0 ≤ idxF l x) : l.length + 1 ≤ n := by
  have hni : x ∉ l := fun hm => hn ((idxF_ge l x).2 hm)
  have := len_le_of_nodup n (x :: l) (fun y hy => by
    rcases List.mem_cons.1 hy with rfl | hy
    · omega
    · have := h.1 y hy; omega) (List.nodup_cons.2 ⟨hni, h.2.imp fun h => by omega⟩)
  simpa using this
set_option maxHeartbeats 4000000 in
set_option maxRecDepth 100000 in
theorem w51 (g f : List Int) (ts : List TableP) (rs : List ValP) (i k n : Nat) (t : TableP) (e : Int × Int) (c : CellP) (hg : g.length ≤ 2^36) (hf : f.length ≤ 2^36) (hrs : rs.length ≤ 2^36) (E : EvenP ts) (P : AtP ts i k t e) (hlv : liveP g f e.1 e.2) (h40 : ts.length ≤ 40) (hn : n ≤ 12) (hcp : colsP t.1 n) (hc : 0 ≤ c.1 ∧ c.1 ≤ (n : Int) - 1) : Contract Tryz.prog false 51 [.own, .ro, .ro] [.po true [.sl true 1 (g.map iT), .sl true 1 (f.map iT), .sl true 3 (ts.map tbO), .sl true 4 (rs.map vT)], .ag (eT e), .ag (clT c)] [.i .i64 (putTs ts i k t e c).2] [some (.po true [.sl true 1 (g.map iT), .sl true 1 (f.map iT), .sl true 3 ((putTs ts i k t e c).1.map tbO), .sl true 4 (rs.map vT)])] := by
  refine mk_contract [some [(1, 0)]] Tryz.func51 (c := Tryz.f51.body.get!) (by kernel_rfl) k51 r51 (of_decide_eq_true rfl) fun _ => ?_
  have hok : okW (g, f, ts, rs) := ⟨hg, hf, ⟨by have := E.n; simp only; omega, E.okT⟩, hrs⟩
  have hW := w85 (g, f, ts, rs) e hok
  simp only [P.hw] at hW
  have hlive := (W83w g f ts rs e.1 e.2 (by omega) (by omega)).t hlv
  simp only [entT] at hlive
  have ht := P.ht
  have hm := List.mem_of_getElem? ht
  have hil := (List.getElem?_eq_some_iff.1 ht).1
  have hkl : k < t.2.1.length := (List.getElem?_eq_some_iff.1 P.he).1
  have hn30 := E.n
  have hA := w101 t.1 c.1 (by have := E.c t hm; omega)
  have hidx := idx_lt (l := t.1) (x := c.1)
  have hcl := cols_lt hcp hc
  have hR := w104 g f ts rs i k t (by omega) ht (by have := E.c t hm; omega) (E.s t hm) (E.v t hm) hkl
  have hrl := rowL_len (k := k) (E.s t hm)
  have hup := upC_row (k := k) (E.s t hm) hcp.2
  have hsm := smC_row (k := k) hn hcp
  have hc30 := E.c t hm
  unfold putTs
  generalize hix : idxF t.1 c.1 = ix at *
  obtain ⟨M, hM⟩ : ∃ M, M = rowL t k := ⟨_, rfl⟩
  rw [← hM] at hR hrl hup hsm ⊢
  by_cases hx0 : 0 ≤ ix
  · rw [if_pos hx0]
    obtain ⟨vs, hvs⟩ : ∃ vs, t.2.2[ix.toNat]? = some vs := get_some (by rw [E.s t hm]; exact hidx hx0)
    have hvl := E.v t hm vs (List.mem_of_getElem? hvs)
    obtain ⟨v0, hv0⟩ : ∃ v, vs[k]? = some v := get_some (by omega)
    obtain ⟨TS, hTS⟩ : ∃ TS, TS = setTs ts i k ix.toNat c.2 := ⟨_, rfl⟩
    rw [← hTS]
    unfold c51; simp
    refine callW_ms [.ro, .ro] ?_
    simp
    refine callX_of hlive (by simp) ?_
    simp
    refine callW_ms [.ro, .ro] ?_
    simp
    refine callX_of hW (by simp) ?_
    simp [ht]
    refine ⟨hil, ?_⟩
    refine callW_ms [.ro, .ro] ?_
    simp [ht]
    refine callX_of hA (by simp) ?_
    simp [ht, hx0, hvs, hv0]
    have hixl : ix.toNat < t.2.2.length := (List.getElem?_eq_some_iff.1 hvs).1
    refine ⟨hil, by omega, by omega, ?_⟩
    first | refine no_tb ?_ | skip
    rw [mod_mod, mod_mod, mod_mod, hTS]
    unfold setTs
    refine map_mod2 ht ?_
    simp only [tbO]
    show [TV.sl true 1 (t.1.map iT), TV.sl true 2 (t.2.1.map eT), TV.sl true 1 (((((t.2.2.map cvO).modify ix.toNat _).modify ix.toNat _).modify ix.toNat _).modify ix.toNat _)] = _
    rw [mod_mod, mod_mod, mod_mod]
    congr 4
    refine map_mod2 hvs ?_
    simp only [cvO]
    show [TV.sl true 4 (((((vs.map vT).modify k _).modify k _).modify k _).modify k _)] = _
    rw [mod_vT c.2 hv0]
  · rw [if_neg hx0]
    have hcl2 := hcl hx0
    have hlM := insC_len c M
    have hMc : (M ++ [c]).length = M.length + 1 := by simp
    have hSo := w103 M c (by omega) hup hsm (by omega)
    simp only [List.map_append, List.map_cons, List.map_nil, clT, vT, List.cons_append, List.nil_append] at hSo
    have hne : t.1 ≠ colsOf (insC c M) := by
      intro h
      have := congrArg List.length h
      simp [colsOf, hlM] at this
      omega
    have eM : List.map clT M ++ [[TV.i .i64 c.1, TV.i .i64 c.2.1, TV.i .i64 c.2.2.1, TV.f c.2.2.2.1, TV.f c.2.2.2.2]] = (M ++ [c]).map clT := by simp
    by_cases hfu : fullT ts (colsOf (insC c M))
    · rw [if_pos hfu]
      have hJ := W102f g f ts rs (insC c M) e hg hf hrs E (by omega) h40 hfu
      unfold c51; simp
      refine callW_ms [.ro, .ro] ?_
      simp
      refine callX_of hlive (by simp) ?_
      simp
      refine callW_ms [.ro, .ro] ?_
      simp
      refine callX_of hW (by simp) ?_
      simp [ht]
      refine ⟨hil, ?_⟩
      refine callW_ms [.ro, .ro] ?_
      simp [ht]
      refine callX_of hA (by simp) ?_
      simp [ht, hx0]
      refine callW_ms [.ro, .ro, .ro] ?_
      simp
      refine callX_of hR (by simp) ?_
      simp
      refine ⟨by omega, ?_⟩
      refine callW_ms [.ro] ?_
      simp
      refine callX_of hSo (by simp) ?_
      simp
      refine callW_ms [.own, .ro, .ro] ?_
      simp
      refine callX_of hJ (by simp) ?_
      simp
    · rw [if_neg hfu]
      have hJ := w102 g f ts rs (insC c M) e hg hf hrs E (by omega) hfu
      have hjt := join_at (e := e) ht hne
      have hjl := joinTs_len ts e (insC c M)
      obtain ⟨TS, hTS⟩ : ∃ TS, TS = moveTs ts i k e (insC c M) := ⟨_, rfl⟩
      rw [← hTS]
      have hTS2 : TS = leaveAt (joinTs ts e (insC c M)) i k := hTS
      generalize joinTs ts e (insC c M) = ts2 at *
      obtain ⟨s1, s2⟩ := split_at hjt
      have hla : leaveAt ts2 i k = ts2.take i ++ leaveT t k :: ts2.drop (i + 1) := by
        have h1 := leaveAt_mid (A := ts2.take i) (B := ts2.drop (i + 1)) (t := t) (k := k)
        rw [← s1, s2] at h1
        exact h1
      have hLv := w84 g f (ts2.take i) (ts2.drop (i + 1)) t rs k (by simp; omega) (by simp; omega) hkl (E.r t hm) (by rw [E.s t hm]; omega) (E.v t hm)
      rw [← s1, s2, ← hla, ← hTS2] at hLv
      unfold c51; simp
      refine callW_ms [.ro, .ro] ?_
      simp
      refine callX_of hlive (by simp) ?_
      simp
      refine callW_ms [.ro, .ro] ?_
      simp
      refine callX_of hW (by simp) ?_
      simp [ht]
      refine ⟨hil, ?_⟩
      refine callW_ms [.ro, .ro] ?_
      simp [ht]
      refine callX_of hA (by simp) ?_
      simp [ht, hx0]
      refine callW_ms [.ro, .ro, .ro] ?_
      simp
      refine callX_of hR (by simp) ?_
      simp
      refine ⟨by omega, ?_⟩
      refine callW_ms [.ro] ?_
      simp
      refine callX_of hSo (by simp) ?_
      simp
      refine callW_ms [.own, .ro, .ro] ?_
      simp
      refine callX_of hJ (by simp) ?_
      simp
      refine callW_ms [.own, .ro, .ro] ?_
      simp
      refine callX_of hLv (by simp) ?_
      simp
end Go.Proofs.YtehmdblkkpdmoaaGreatT


namespace Go.Proofs.YtehmdblkkpdmoaaGreatT
set_option linter.unusedVariables false
set_option linter.unusedSimpArgs false
open Go
def c50 : TCode := (.seq (.ops [⟨(some 3), 5, .box 5 (.t 1), none, []⟩, ⟨(some 4), 6, .mv (.c (.b false)), none, []⟩])
  (.seq (.draw [⟨(some 5), 7, .faddr 0 1 (.t 3), none, []⟩, ⟨(some 6), 8, .load false 1 (.t 5), none, []⟩, ⟨(some 7), 9, .mv (.t 0), none, []⟩, ⟨(some 8), 10, .nilck (.t 7), none, []⟩, ⟨(some 9), 11, .faddr 0 1 (.t 8), none, []⟩, ⟨(some 10), 12, .load false 1 (.t 9), none, []⟩, ⟨(some 11), 13, .len false (.t 10), none, []⟩, ⟨(some 12), 14, .bin .sub (.t 11) (.c (.i .i64 1)), none, []⟩, ⟨(some 13), 15, .call 54 [((.t 6), 0), ((.c (.i .i64 0)), 0), ((.t 12), 0)], none, []⟩, ⟨(some 14), 16, .mv (.t 13), none, []⟩, ⟨(some 15), 17, .faddr 1 4 (.t 3), (some (14, true)), []⟩, ⟨(some 16), 18, .load true 4 (.t 15), (some (14, true)), []⟩, ⟨(some 17), 19, .mv (.t 0), (some (14, true)), []⟩, ⟨(some 18), 20, .nilck (.t 17), (some (14, true)), []⟩, ⟨(some 19), 21, .faddr 0 1 (.t 18), (some (14, true)), []⟩, ⟨(some 20), 22, .load false 1 (.t 19), (some (14, true)), []⟩, ⟨(some 21), 23, .faddr 0 1 (.t 3), (some (14, true)), []⟩, ⟨(some 22), 24, .load false 1 (.t 21), (some (14, true)), []⟩, ⟨(some 23), 25, .iaddr 2 (.t 20) (.t 22), (some (14, true)), []⟩, ⟨(some 24), 26, .faddr 1 1 (.t 23), (some (14, true)), []⟩, ⟨(some 25), 27, .load false 1 (.t 24), (some (14, true)), []⟩, ⟨(some 26), 28, .call 81 [((.t 16), 0), ((.t 25), 0)], (some (14, true)), []⟩, ⟨(some 27), 29, .pick (.t 14) (.t 26) (.c (.b false)), none, []⟩, ⟨(some 4), 6, .mv (.t 27), none, []⟩])
  .ret))
theorem k50 : compCode Tryz.prog Tryz.f50.ntmps Tryz.f50.body.get! = some c50 := by kernel_rfl
theorem r50 : resTmps Tryz.prog Tryz.f50.results.toList = some [.tmp 4] := by kernel_rfl
def c18 : TCode := (.seq (.ops [⟨(some 5), 7, .box 3 (.t 0), none, []⟩, ⟨(some 6), 8, .box 4 (.t 1), none, []⟩, ⟨(some 7), 9, .box 2 (.t 2), none, []⟩, ⟨(some 9), 11, .box 4 (.t 4), none, []⟩, ⟨(some 10), 12, .box 4 (.c (.ag [(.sl true 1 []), (.sl true 1 []), (.sl true 3 []), (.sl true 4 [])])), none, []⟩, ⟨(some 11), 13, .mv (.c (.i .i64 0)), none, []⟩])
  (.seq (.seq (.ops [⟨(some 12), 14, .load true 3 (.t 5), none, []⟩, ⟨(some 13), 15, .load true 4 (.t 6), none, []⟩, ⟨(some 14), 16, .call 27 [((.t 12), 0), ((.t 13), 0)], none, []⟩, ⟨(some 15), 17, .un .not (.t 14), none, []⟩, ⟨(some 16), 18, .mv (.t 15), none, []⟩, ⟨(some 17), 19, .load true 3 (.t 5), (some (16, false)), []⟩, ⟨(some 18), 20, .mv (.t 3), (some (16, false)), []⟩, ⟨(some 19), 21, .load true 4 (.t 9), (some (16, false)), []⟩, ⟨(some 20), 22, .call 48 [((.t 17), 0), ((.t 18), 0), ((.t 19), 0)], (some (16, false)), []⟩, ⟨(some 21), 23, .un .not (.t 20), (some (16, false)), []⟩, ⟨(some 22), 24, .pick (.t 16) (.c (.b true)) (.t 21), none, []⟩])
  (.cond (.t 22)
  (.seq (.ops [⟨(some 23), 25, .load true 4 (.t 6), none, []⟩, ⟨(some 24), 26, .call 28 [((.t 23), 0)], none, []⟩, ⟨none, 1002002, .store 4 (.t 10) (.t 24), none, []⟩, ⟨(some 11), 13, .mv (.c (.i .i64 1)), none, []⟩])
  .ret)
  .skip))
  (.seq (.draw [⟨(some 25), 27, .load true 4 (.t 6), none, []⟩, ⟨(some 26), 28, .call 28 [((.t 25), 0)], none, []⟩, ⟨(some 27), 29, .load true 2 (.t 7), none, [1]⟩, ⟨(some 28), 30, .mv (.t 3), none, [1]⟩, ⟨(some 29), 31, .load true 4 (.t 9), none, [1]⟩, ⟨(some 30), 32, .call 49 [((.t 26), 0), ((.t 27), 0), ((.t 28), 0), ((.t 29), 0)], none, []⟩, ⟨(some 31), 33, .ext 0 (.t 30), none, []⟩, ⟨(some 32), 34, .ext 1 (.t 30), none, []⟩, ⟨none, 1003008, .store 4 (.t 10) (.t 31), none, []⟩, ⟨(some 11), 13, .mv (.t 32), none, []⟩])
  .ret)))
theorem k18 : compCode Tryz.prog Tryz.f18.ntmps Tryz.f18.body.get! = some c18 := by kernel_rfl
theorem r18 : resTmps Tryz.prog Tryz.f18.results.toList = some [.cell 10 true 4, .tmp 11] := by kernel_rfl
def c20 : TCode := (.seq (.ops [⟨(some 5), 7, .box 3 (.t 0), none, []⟩, ⟨(some 6), 8, .box 4 (.t 1), none, []⟩, ⟨(some 7), 9, .box 2 (.t 2), none, []⟩, ⟨(some 9), 11, .box 4 (.t 4), none, []⟩, ⟨(some 10), 12, .box 4 (.c (.ag [(.sl true 1 []), (.sl true 1 []), (.sl true 3 []), (.sl true 4 [])])), none, []⟩, ⟨(some 11), 13, .mv (.c (.i .i64 0)), none, []⟩])
  (.seq (.ops [⟨(some 15), 17, .load true 4 (.t 6), none, []⟩, ⟨(some 16), 18, .call 34 [((.t 15), 0)], none, []⟩, ⟨(some 12), 14, .box 4 (.c (.ag [(.sl true 1 []), (.sl true 1 []), (.sl true 3 []), (.sl true 4 [])])), none, []⟩, ⟨none, 1001003, .store 4 (.t 12) (.t 16), none, []⟩])
  (.seq (.ops [⟨(some 17), 19, .mv (.t 3), none, []⟩, ⟨(some 18), 20, .load true 4 (.t 9), none, []⟩, ⟨(some 19), 21, .build [(.i .i64 0), (.i .i64 0), (.i .i64 0), (.f 0), (.f 0)] [(0, 1, (.t 17)), (1, 4, (.t 18))], none, []⟩, ⟨(some 13), 15, .box 5 (.c (.ag [(.i .i64 0), (.i .i64 0), (.i .i64 0), (.f 0), (.f 0)])), none, []⟩, ⟨none, 1002004, .store 5 (.t 13) (.t 19), none, []⟩])
  (.seq (.seq (.ops [⟨(some 20), 22, .load true 3 (.t 5), none, []⟩, ⟨(some 21), 23, .load true 4 (.t 6), none, []⟩, ⟨(some 22), 24, .call 35 [((.t 20), 0), ((.t 21), 0)], none, []⟩, ⟨(some 23), 25, .un .not (.t 22), none, []⟩, ⟨(some 24), 26, .mv (.t 23), none, []⟩, ⟨(some 25), 27, .load true 5 (.t 13), (some (24, false)), []⟩, ⟨(some 26), 28, .call 50 [((.t 5), 3), ((.t 25), 0)], (some (24, false)), []⟩, ⟨(some 27), 29, .un .not (.t 26), (some (24, false)), []⟩, ⟨(some 28), 30, .pick (.t 24) (.c (.b true)) (.t 27), none, []⟩])
  (.cond (.t 28)
  (.seq (.ops [⟨(some 29), 31, .load true 4 (.t 12), none, []⟩, ⟨none, 1004001, .store 4 (.t 10) (.t 29), none, []⟩, ⟨(some 11), 13, .mv (.c (.i .i64 1)), none, []⟩])
  .ret)
  .skip))
  (.seq (.ops [⟨(some 30), 32, .load true 2 (.t 7), none, []⟩, ⟨(some 31), 33, .load true 5 (.t 13), none, []⟩, ⟨(some 32), 34, .call 51 [((.t 12), 0), ((.t 30), 0), ((.t 31), 0)], none, []⟩, ⟨(some 14), 16, .mv (.t 32), none, []⟩])
  (.seq (.ops [⟨(some 33), 35, .load true 4 (.t 12), none, []⟩, ⟨(some 34), 36, .call 34 [((.t 33), 0)], none, []⟩, ⟨(some 35), 37, .mv (.t 14), none, []⟩, ⟨none, 1006003, .store 4 (.t 10) (.t 34), none, []⟩, ⟨(some 11), 13, .mv (.t 35), none, []⟩])
  .ret))))))
theorem k20 : compCode Tryz.prog Tryz.f20.ntmps Tryz.f20.body.get! = some c20 := by kernel_rfl
theorem r20 : resTmps Tryz.prog Tryz.f20.results.toList = some [.cell 10 true 4, .tmp 11] := by kernel_rfl
def c4 : TCode := (.seq (.ops [⟨(some 5), 7, .box 3 (.t 0), none, []⟩, ⟨(some 6), 8, .box 4 (.t 1), none, []⟩, ⟨(some 7), 9, .box 2 (.t 2), none, []⟩, ⟨(some 9), 11, .box 4 (.t 4), none, []⟩, ⟨(some 10), 12, .mv (.c (.b false)), none, []⟩])
  (.seq (.ops [⟨(some 11), 13, .mv (.c (.i .i64 1048576)), none, []⟩])
  (.seq (.ops [⟨(some 23), 25, .load true 3 (.t 5), none, []⟩, ⟨(some 24), 26, .mv (.t 11), none, []⟩, ⟨(some 25), 27, .call 6 [((.t 23), 0), ((.t 24), 0)], none, []⟩, ⟨(some 11), 13, .mv (.t 25), none, []⟩])
  (.seq (.seq (.ops [⟨(some 26), 28, .mv (.t 11), none, []⟩, ⟨(some 27), 29, .bin .lss (.t 26) (.c (.i .i64 0)), none, []⟩])
  (.cond (.t 27)
  (.seq (.ops [⟨(some 10), 12, .mv (.c (.b true)), none, []⟩])
  .ret)
  .skip))
  (.seq (.ops [⟨(some 28), 30, .load true 4 (.t 6), none, []⟩, ⟨(some 29), 31, .mv (.t 11), none, []⟩, ⟨(some 30), 32, .call 7 [((.t 28), 0), ((.t 29), 0)], none, []⟩, ⟨(some 11), 13, .mv (.t 30), none, []⟩])
  (.seq (.seq (.ops [⟨(some 31), 33, .mv (.t 11), none, []⟩, ⟨(some 32), 34, .bin .lss (.t 31) (.c (.i .i64 0)), none, []⟩])
  (.cond (.t 32)
  (.seq (.ops [⟨(some 10), 12, .mv (.c (.b true)), none, []⟩])
  .ret)
  .skip))
  (.seq (.draw [⟨(some 34), 36, .load true 3 (.t 5), none, []⟩, ⟨(some 35), 37, .call 9 [((.t 34), 0)], none, []⟩, ⟨(some 36), 38, .load true 4 (.t 6), none, [1]⟩, ⟨(some 37), 39, .call 10 [((.t 36), 0)], none, []⟩, ⟨(some 38), 40, .load true 2 (.t 7), none, [1, 3]⟩, ⟨(some 39), 41, .call 11 [((.t 38), 0)], none, []⟩, ⟨(some 40), 42, .mv (.t 3), none, [1, 3, 5]⟩, ⟨(some 41), 43, .load true 4 (.t 9), none, [1, 3, 5]⟩, ⟨(some 42), 44, .call 19 [((.t 41), 0)], none, [6]⟩, ⟨(some 43), 45, .call 18 [((.t 35), 0), ((.t 37), 0), ((.t 39), 0), ((.t 40), 0), ((.t 42), 0)], none, []⟩, ⟨(some 33), 35, .mv (.t 43), none, []⟩, ⟨(some 44), 46, .ext 0 (.t 33), none, []⟩, ⟨(some 45), 47, .ext 1 (.t 33), none, []⟩, ⟨(some 12), 14, .box 4 (.c (.ag [(.sl true 1 []), (.sl true 1 []), (.sl true 3 []), (.sl true 4 [])])), none, [0, 1, 2, 3, 4, 5, 6, 7, 8, 9, 10, 11, 12]⟩, ⟨none, 1008014, .store 4 (.t 12) (.t 44), none, [1000000, 12]⟩, ⟨(some 13), 15, .mv (.t 45), none, []⟩])
  (.seq (.ops [⟨(some 46), 48, .load true 3 (.t 5), none, []⟩, ⟨(some 47), 49, .call 9 [((.t 46), 0)], none, []⟩, ⟨(some 14), 16, .box 3 (.c (.ag [(.sl true 2 []), (.sl true 2 []), (.sl true 2 [])])), none, []⟩, ⟨none, 1009003, .store 3 (.t 14) (.t 47), none, []⟩])
  (.seq (.ops [⟨(some 48), 50, .load true 4 (.t 6), none, []⟩, ⟨(some 49), 51, .call 10 [((.t 48), 0)], none, []⟩, ⟨(some 15), 17, .box 4 (.c (.ag [(.sl true 1 []), (.sl true 1 []), (.sl true 3 []), (.sl true 4 [])])), none, []⟩, ⟨none, 1010003, .store 4 (.t 15) (.t 49), none, []⟩])
  (.seq (.draw [⟨(some 51), 53, .load true 3 (.t 14), none, []⟩, ⟨(some 52), 54, .load true 4 (.t 15), none, []⟩, ⟨(some 53), 55, .load true 2 (.t 7), none, []⟩, ⟨(some 54), 56, .call 11 [((.t 53), 0)], none, [0, 1]⟩, ⟨(some 55), 57, .mv (.t 3), none, [3]⟩, ⟨(some 56), 58, .load true 4 (.t 9), none, [3]⟩, ⟨(some 57), 59, .call 19 [((.t 56), 0)], none, [0, 1, 4]⟩, ⟨(some 58), 60, .call 20 [((.t 51), 0), ((.t 52), 0), ((.t 54), 0), ((.t 55), 0), ((.t 57), 0)], none, []⟩, ⟨(some 50), 52, .mv (.t 58), none, []⟩, ⟨(some 59), 61, .ext 0 (.t 50), none, []⟩, ⟨(some 60), 62, .ext 1 (.t 50), none, []⟩, ⟨(some 16), 18, .box 4 (.c (.ag [(.sl true 1 []), (.sl true 1 []), (.sl true 3 []), (.sl true 4 [])])), none, [0, 1, 2, 3, 4, 5, 6, 7, 8, 9, 10]⟩, ⟨none, 1011012, .store 4 (.t 16) (.t 59), none, [1000000, 10]⟩, ⟨(some 17), 19, .mv (.t 60), none, []⟩])
  (.seq (.seq (.ops [⟨(some 61), 63, .load true 4 (.t 16), none, []⟩, ⟨(some 62), 64, .load true 4 (.t 12), none, []⟩, ⟨(some 63), 65, .call 13 [((.t 61), 0), ((.t 62), 0)], none, []⟩, ⟨(some 64), 66, .un .not (.t 63), none, []⟩, ⟨(some 65), 67, .mv (.t 64), none, []⟩, ⟨(some 66), 68, .mv (.t 17), (some (65, false)), []⟩, ⟨(some 67), 69, .mv (.t 13), (some (65, false)), []⟩, ⟨(some 68), 70, .bin .neq (.t 66) (.t 67), (some (65, false)), []⟩, ⟨(some 69), 71, .pick (.t 65) (.c (.b true)) (.t 68), none, []⟩])
  (.cond (.t 69)
  (.seq (.ops [⟨(some 10), 12, .mv (.c (.b false)), none, []⟩])
  .ret)
  .skip))
  (.seq (.seq (.draw [⟨(some 70), 72, .load true 3 (.t 14), none, []⟩, ⟨(some 71), 73, .load true 3 (.t 5), none, []⟩, ⟨(some 72), 74, .call 9 [((.t 71), 0)], none, [0]⟩, ⟨(some 73), 75, .call 14 [((.t 70), 0), ((.t 72), 0)], none, []⟩, ⟨(some 74), 76, .un .not (.t 73), none, []⟩])
  (.cond (.t 74)
  (.seq (.ops [⟨(some 10), 12, .mv (.c (.b false)), none, []⟩])
  .ret)
  .skip))
  (.seq (.seq (.draw [⟨(some 75), 77, .load true 4 (.t 15), none, []⟩, ⟨(some 76), 78, .load true 4 (.t 6), none, []⟩, ⟨(some 77), 79, .call 10 [((.t 76), 0)], none, [0]⟩, ⟨(some 78), 80, .call 13 [((.t 75), 0), ((.t 77), 0)], none, []⟩, ⟨(some 79), 81, .un .not (.t 78), none, []⟩])
  (.cond (.t 79)
  (.seq (.ops [⟨(some 10), 12, .mv (.c (.b false)), none, []⟩])
  .ret)
  .skip))
  (.seq (.ops [⟨(some 18), 20, .mv (.c (.i .i64 1)), none, []⟩])
  (.seq (.ops [⟨(some 80), 82, .load true 3 (.t 14), none, []⟩, ⟨(some 81), 83, .mv (.t 18), none, []⟩, ⟨(some 82), 84, .call 15 [((.t 80), 0), ((.t 81), 0)], none, []⟩, ⟨(some 18), 20, .mv (.t 82), none, []⟩])
  (.seq (.ops [⟨(some 83), 85, .load true 4 (.t 15), none, []⟩, ⟨(some 84), 86, .mv (.t 18), none, []⟩, ⟨(some 85), 87, .call 16 [((.t 83), 0), ((.t 84), 0)], none, []⟩, ⟨(some 18), 20, .mv (.t 85), none, []⟩])
  (.seq (.seq (.ops [⟨(some 86), 88, .mv (.t 18), none, []⟩, ⟨(some 87), 89, .bin .lss (.t 86) (.c (.i .i64 0)), none, []⟩, ⟨(some 88), 90, .mv (.t 87), none, []⟩, ⟨(some 89), 91, .load true 4 (.t 16), (some (88, false)), []⟩, ⟨(some 90), 92, .load true 4 (.t 12), (some (88, false)), []⟩, ⟨(some 91), 93, .call 13 [((.t 89), 0), ((.t 90), 0)], (some (88, false)), []⟩, ⟨(some 92), 94, .un .not (.t 91), (some (88, false)), []⟩, ⟨(some 93), 95, .pick (.t 88) (.c (.b true)) (.t 92), none, []⟩, ⟨(some 94), 96, .mv (.t 93), none, []⟩, ⟨(some 95), 97, .mv (.t 17), (some (94, false)), []⟩, ⟨(some 96), 98, .mv (.t 13), (some (94, false)), []⟩, ⟨(some 97), 99, .bin .neq (.t 95) (.t 96), (some (94, false)), []⟩, ⟨(some 98), 100, .pick (.t 94) (.c (.b true)) (.t 97), none, []⟩])
  (.cond (.t 98)
  (.seq (.ops [⟨(some 10), 12, .mv (.c (.b false)), none, []⟩])
  .ret)
  .skip))
  (.seq (.ops [⟨(some 19), 21, .mv (.c (.i .i64 1)), none, []⟩])
  (.seq (.ops [⟨(some 99), 101, .load true 4 (.t 16), none, []⟩, ⟨(some 100), 102, .mv (.t 19), none, []⟩, ⟨(some 101), 103, .call 16 [((.t 99), 0), ((.t 100), 0)], none, []⟩, ⟨(some 19), 21, .mv (.t 101), none, []⟩])
  (.seq (.ops [⟨(some 20), 22, .mv (.c (.i .i64 1)), none, []⟩])
  (.seq (.ops [⟨(some 102), 104, .load true 4 (.t 16), none, []⟩, ⟨(some 103), 105, .mv (.t 20), none, []⟩, ⟨(some 104), 106, .call 17 [((.t 102), 0), ((.t 103), 0)], none, []⟩, ⟨(some 20), 22, .mv (.t 104), none, []⟩])
  (.seq (.seq (.ops [⟨(some 105), 107, .mv (.t 20), none, []⟩, ⟨(some 106), 108, .bin .lss (.t 105) (.c (.i .i64 0)), none, []⟩])
  (.cond (.t 106)
  (.seq (.ops [⟨(some 10), 12, .mv (.c (.b false)), none, []⟩])
  .ret)
  .skip))
  (.seq (.seq (.ops [⟨(some 107), 109, .mv (.t 20), none, []⟩, ⟨(some 108), 110, .mv (.t 19), none, []⟩, ⟨(some 109), 111, .bin .neq (.t 107) (.t 108), none, []⟩])
  (.cond (.t 109)
  (.seq (.ops [⟨(some 10), 12, .mv (.c (.b false)), none, []⟩])
  .ret)
  .skip))
  (.seq (.draw [⟨(some 111), 113, .load true 3 (.t 5), none, []⟩, ⟨(some 112), 114, .call 9 [((.t 111), 0)], none, []⟩, ⟨(some 113), 115, .load true 4 (.t 6), none, [1]⟩, ⟨(some 114), 116, .call 10 [((.t 113), 0)], none, []⟩, ⟨(some 115), 117, .load true 2 (.t 7), none, [1, 3]⟩, ⟨(some 116), 118, .call 11 [((.t 115), 0)], none, []⟩, ⟨(some 117), 119, .mv (.t 3), none, [1, 3, 5]⟩, ⟨(some 118), 120, .load true 4 (.t 9), none, [1, 3, 5]⟩, ⟨(some 119), 121, .call 19 [((.t 118), 0)], none, [6]⟩, ⟨(some 120), 122, .call 20 [((.t 112), 0), ((.t 114), 0), ((.t 116), 0), ((.t 117), 0), ((.t 119), 0)], none, []⟩, ⟨(some 110), 112, .mv (.t 120), none, []⟩, ⟨(some 121), 123, .ext 0 (.t 110), none, []⟩, ⟨(some 122), 124, .ext 1 (.t 110), none, []⟩, ⟨(some 21), 23, .box 4 (.c (.ag [(.sl true 1 []), (.sl true 1 []), (.sl true 3 []), (.sl true 4 [])])), none, [0, 1, 2, 3, 4, 5, 6, 7, 8, 9, 10, 11, 12]⟩, ⟨none, 1031014, .store 4 (.t 21) (.t 121), none, [1000000, 12]⟩, ⟨(some 22), 24, .mv (.t 122), none, []⟩])
  (.seq (.seq (.ops [⟨(some 123), 125, .load true 4 (.t 21), none, []⟩, ⟨(some 124), 126, .load true 4 (.t 12), none, []⟩, ⟨(some 125), 127, .call 13 [((.t 123), 0), ((.t 124), 0)], none, []⟩, ⟨(some 126), 128, .un .not (.t 125), none, []⟩, ⟨(some 127), 129, .mv (.t 126), none, []⟩, ⟨(some 128), 130, .mv (.t 22), (some (127, false)), []⟩, ⟨(some 129), 131, .mv (.t 13), (some (127, false)), []⟩, ⟨(some 130), 132, .bin .neq (.t 128) (.t 129), (some (127, false)), []⟩, ⟨(some 131), 133, .pick (.t 127) (.c (.b true)) (.t 130), none, []⟩])
  (.cond (.t 131)
  (.seq (.ops [⟨(some 10), 12, .mv (.c (.b false)), none, []⟩])
  .ret)
  .skip))
  (.seq (.ops [⟨(some 20), 22, .mv (.c (.i .i64 1)), none, []⟩])
  (.seq (.ops [⟨(some 132), 134, .load true 4 (.t 16), none, []⟩, ⟨(some 133), 135, .mv (.t 20), none, []⟩, ⟨(some 134), 136, .call 17 [((.t 132), 0), ((.t 133), 0)], none, []⟩, ⟨(some 20), 22, .mv (.t 134), none, []⟩])
  (.seq (.seq (.ops [⟨(some 135), 137, .mv (.t 20), none, []⟩, ⟨(some 136), 138, .bin .lss (.t 135) (.c (.i .i64 0)), none, []⟩])
  (.cond (.t 136)
  (.seq (.ops [⟨(some 10), 12, .mv (.c (.b false)), none, []⟩])
  .ret)
  .skip))
  (.seq (.seq (.ops [⟨(some 137), 139, .mv (.t 20), none, []⟩, ⟨(some 138), 140, .mv (.t 19), none, []⟩, ⟨(some 139), 141, .bin .neq (.t 137) (.t 138), none, []⟩])
  (.cond (.t 139)
  (.seq (.ops [⟨(some 10), 12, .mv (.c (.b false)), none, []⟩])
  .ret)
  .skip))
  (.seq (.ops [⟨(some 10), 12, .mv (.c (.b true)), none, []⟩])
  .ret))))))))))))))))))))))))))))))
theorem k4 : compCode Tryz.prog Tryz.f4.ntmps Tryz.f4.body.get! = some c4 := by kernel_rfl
theorem r4 : resTmps Tryz.prog Tryz.f4.results.toList = some [.tmp 10] := by kernel_rfl
def okTn (N : Nat) (t : TableP) : Prop := t.1.length ≤ N ∧ t.2.1.length ≤ N ∧ t.2.2.length ≤ N ∧ ∀ v ∈ t.2.2, v.length ≤ N
theorem okTn.okT {N : Nat} {t : TableP} (h : okTn N t) (hN : N ≤ 2^36) : okT t := ⟨Nat.le_trans h.1 hN, Nat.le_trans h.2.1 hN, Nat.le_trans h.2.2.1 hN, fun v hv => Nat.le_trans (h.2.2.2 v hv) hN⟩
theorem okTn.mono {N M : Nat} {t : TableP} (h : okTn N t) (hN : N ≤ M) : okTn M t := ⟨Nat.le_trans h.1 hN, Nat.le_trans h.2.1 hN, Nat.le_trans h.2.2.1 hN, fun v hv => Nat.le_trans (h.2.2.2 v hv) hN⟩
theorem okTn.leave {N k : Nat} {t : TableP} (h : okTn N t) : okTn N (leaveT t k) := by
  refine ⟨h.1, Nat.le_trans (leaveL_le _ _) h.2.1, by simpa [leaveT] using h.2.2.1, fun v hv => ?_⟩
  obtain ⟨x, hx, rfl⟩ := List.mem_map.1 hv
  exact Nat.le_trans (leaveL_le _ _) (h.2.2.2 x hx)
theorem okTn.join {N : Nat} {t : TableP} {e : Int × Int} {L : List CellP} (h : okTn N t) : okTn (N + 1) (joinT t e L) := by
  refine ⟨by have := h.1; simp only [joinT]; omega, by have := h.2.1; simp [joinT]; omega, by have := h.2.2.1; simp [joinT]; omega, fun v hv => ?_⟩
  obtain ⟨i, hi⟩ := List.mem_iff_getElem?.1 hv
  simp only [joinT, List.getElem?_zipWith] at hi
  cases h1 : t.2.2[i]? with
  | none => simp [h1] at hi
  | some vs =>
    cases h2 : L[i]? with
    | none => simp [h1, h2] at hi
    | some x =>
      simp [h1, h2] at hi
      subst hi
      have := h.2.2.2 vs (List.mem_of_getElem? h1)
      simp; omega
theorem mem_modify {α : Type} {l : List α} {i : Nat} {f : α → α} {x : α} (h : x ∈ l.modify i f) : x ∈ l ∨ ∃ y ∈ l, x = f y := by
  obtain ⟨j, hj⟩ := List.mem_iff_getElem?.1 h
  rw [List.getElem?_modify] at hj
  cases hl : l[j]? with
  | none => simp [hl] at hj
  | some y =>
    have hy := List.mem_of_getElem? hl
    by_cases hij : i = j
    · simp [hl, hij] at hj; exact .inr ⟨y, hy, hj.symm⟩
    · simp [hl, hij] at hj; subst hj; exact .inl hy
theorem sumN_modify {α : Type} {c : α → Nat} {f : α → α} {d : Nat} (h : ∀ x, c (f x) ≤ c x + d) : ∀ (l : List α) (i : Nat), sumN c (l.modify i f) ≤ sumN c l + d
  | [], i => by simp [sumN]
  | a :: l, 0 => by simp only [List.modify_zero_cons, sumN]; have := h a; omega
  | a :: l, i + 1 => by simp only [List.modify_succ_cons, sumN]; have := sumN_modify h l i; omega
theorem zip_n : ∀ (C : List (List ValP)) (L : List CellP), sumN nV (List.zipWith (fun vs x => vs ++ [x.2]) C L) ≤ sumN nV C + 4 * L.length
  | [], L => by simp [sumN]
  | C, [] => by simp [sumN]
  | v :: C, x :: L => by
    have := zip_n C L
    simp only [List.zipWith_cons_cons, sumN, List.length_cons]
    have h : nV (v ++ [x.2]) = nV v + 4 := by simp [nV]; omega
    omega
theorem joinT_n (t : TableP) (e : Int × Int) (L : List CellP) : nTb (joinT t e L) ≤ nTb t + (2 + 4 * L.length) := by
  unfold nTb joinT
  have := zip_n t.2.2 L
  simp only [List.length_append, List.length_singleton]
  omega
theorem newT_n (cols : List Int) : nTb (newT cols) = cols.length := by
  unfold nTb newT
  have : ∀ n, sumN nV (List.replicate n ([] : List ValP)) = 0 := fun n => by induction n with
    | zero => rfl
    | succ n ih => simp [List.replicate_succ, sumN, ih, nV]
  simp [this]
theorem moveTs_n (ts : List TableP) (i k : Nat) (e : Int × Int) (L : List CellP) : sumN nTb (moveTs ts i k e L) ≤ sumN nTb ts + (2 + 5 * L.length) := by
  have h1 := sumN_modify (c := nTb) (f := fun t => leaveT t k) (d := 0) (fun t => by have := leaveT_n t k; omega) ((tabW ts (colsOf L)).1.modify (tabW ts (colsOf L)).2 fun t => joinT t e L) i
  have h2 := sumN_modify (c := nTb) (f := fun t => joinT t e L) (d := 2 + 4 * L.length) (fun t => joinT_n t e L) (tabW ts (colsOf L)).1 (tabW ts (colsOf L)).2
  have h3 : sumN nTb (tabW ts (colsOf L)).1 ≤ sumN nTb ts + L.length := by
    unfold tabW
    split
    · simp
    · simp only [sumN_app, sumN, newT_n]
      simp [colsOf]
  unfold moveTs leaveAt
  omega
theorem moveTs_ok {N : Nat} {ts : List TableP} {i k : Nat} {e : Int × Int} {L : List CellP} (h : ∀ t ∈ ts, okTn N t) (hL : L.length ≤ N) : (moveTs ts i k e L).length ≤ ts.length + 1 ∧ ∀ t ∈ moveTs ts i k e L, okTn (N + 1) t := by
  have h0 : (tabW ts (colsOf L)).1.length ≤ ts.length + 1 ∧ ∀ t ∈ (tabW ts (colsOf L)).1, okTn N t := by
    unfold tabW
    split
    · exact ⟨by simp, h⟩
    · refine ⟨by simp, fun t ht => ?_⟩
      rcases List.mem_append.1 ht with ht | ht
      · exact h t ht
      · rw [List.mem_singleton.1 ht]
        refine ⟨by simpa [newT, colsOf] using hL, by simp [newT], by simpa [newT, colsOf] using hL, fun v hv => ?_⟩
        simp [newT] at hv
        rw [hv.2]; simp
  unfold moveTs leaveAt
  refine ⟨by simpa using h0.1, fun t ht => ?_⟩
  have step : ∀ t ∈ ((tabW ts (colsOf L)).1.modify (tabW ts (colsOf L)).2 fun t => joinT t e L), okTn (N + 1) t := by
    intro t ht
    rcases mem_modify ht with ht | ⟨y, hy, rfl⟩
    · exact (h0.2 t ht).mono (by omega)
    · exact (h0.2 y hy).join
  rcases mem_modify ht with ht | ⟨y, hy, rfl⟩
  · exact step t ht
  · exact (step y hy).leave
theorem setTs_ok {N : Nat} {ts : List TableP} {i k m : Nat} {v : ValP} (h : ∀ t ∈ ts, okTn N t) : (setTs ts i k m v).length = ts.length ∧ (∀ t ∈ setTs ts i k m v, okTn N t) ∧ sumN nTb (setTs ts i k m v) ≤ sumN nTb ts := by
  refine ⟨by simp [setTs], fun t ht => ?_, ?_⟩
  · rcases mem_modify ht with ht | ⟨y, hy, rfl⟩
    · exact h t ht
    · have hy' := h y hy
      refine ⟨hy'.1, hy'.2.1, by simpa using hy'.2.2.1, fun x hx => ?_⟩
      rcases mem_modify hx with hx | ⟨z, hz, rfl⟩
      · exact hy'.2.2.2 x hx
      · simpa using hy'.2.2.2 z hz
  · have := sumN_modify (c := nTb) (f := fun t : TableP => (t.1, t.2.1, t.2.2.modify m fun vs => vs.set k v)) (d := 0) (fun t => by
      unfold nTb
      have := sumN_modify (c := nV) (f := fun vs : List ValP => vs.set k v) (d := 0) (fun x => by simp [nV]) t.2.2 m
      simp only; omega) ts i
    simpa [setTs] using this
theorem okN {w : WorldP} {N : Nat} (h : cW w ≤ N) : w.1.length ≤ N ∧ w.2.1.length ≤ N ∧ w.2.2.1.length ≤ N ∧ (∀ t ∈ w.2.2.1, okTn N t) ∧ w.2.2.2.length ≤ N := by
  unfold cW at h
  refine ⟨by omega, by omega, by omega, fun t ht => ?_, by omega⟩
  have h1 := sumN_mem (c := cT) ht
  have h2 : cT t ≤ N := by omega
  refine ⟨?_, ?_, ?_, fun v hv => ?_⟩
  · unfold cT at h2; omega
  · unfold cT at h2; omega
  · unfold cT at h2; omega
  · have h3 : v.length ≤ sumN (fun v : List ValP => v.length) t.2.2 := sumN_mem (c := fun v : List ValP => v.length) hv
    unfold cT at h2; omega
theorem live_atP {c r d : DeclsP} {w : WorldP} {e : Int × Int} (hk : okW w) (hw : WorldOkP c r d w) (hl : liveP w.1 w.2.1 e.1 e.2) : ∃ (i k : Nat) (t : TableP), AtP w.2.2.1 i k t e ∧ EvenP w.2.2.1 ∧ colsP t.1 c.length ∧ c.length ≤ 12 ∧ w.2.2.1.length ≤ 40 := by
  obtain ⟨A, B, t, k, e1, e2, e3, lA, lB, kt, tp, hv, hkl⟩ := live_at hk hw hl
  refine ⟨A.length, k, t, ⟨?_, e2, e3⟩, ⟨?_, fun t ht => ?_, fun t ht => ?_, fun t ht => ?_, fun t ht => ?_⟩, tp.1, hw.1.1.1.1, hw.1.2.2.1⟩
  · rw [e1]; simp
  · have := hw.1.2.2.1; omega
  · have h1 := colsP_len (hw.2.2.1 t ht).1
    have h2 := hw.1.1.1.1
    omega
  · exact (hk.2.2.1.2 t ht).2.1
  · exact (hw.2.2.1 t ht).2.1
  · exact tab_vals (hw.2.2.1 t ht)
end Go.Proofs.YtehmdblkkpdmoaaGreatT


namespace Go.Proofs.YtehmdblkkpdmoaaGreatT
set_option linter.unusedVariables false
set_option linter.unusedSimpArgs false
open Go
theorem fit_getZ {c : DeclsP} {k : Int} (h : 0 ≤ k ∧ k ≤ (c.length : Int) - 1) : ∃ d, c[k.toNat]? = some d := get_some (by omega)
theorem w50 (c r e : DeclsP) (x : CellP) (hc : c.length ≤ 2^40) : Contract Tryz.prog false 50 [.ro, .ro] [.po false [.sl false 2 (c.map dT), .sl false 2 (r.map dT), .sl false 2 (e.map dT)], cellR x] [.b (decide (fitP c x.1 x.2))] [] := by
  refine mk_contract [] Tryz.func50 (c := Tryz.f50.body.get!) (by kernel_rfl) k50 r50 (of_decide_eq_true rfl) fun _ => ?_
  have hw : IntKind.i64.wrap ((c.length : Int) - 1) = c.length - 1 := wrap_id (by omega) (by omega)
  unfold c50; simp [hw]
  by_cases h1 : 0 ≤ x.1 ∧ x.1 ≤ (c.length : Int) - 1
  · obtain ⟨d, hd⟩ := fit_getZ h1
    refine callW_ms [.ro, .ro, .ro] ?_
    simp
    refine callX_of ((w54 _ _ _).t h1) (by simp) ?_
    simp [hd, h1.1]
    refine callW_ms [.ro, .ro] ?_
    simp [valV]
    refine callX_of (w81 x.2 d.2) (by simp) ?_
    simp
    simp [fitP, ofK, h1, hd]
    exact ⟨fun h => ⟨h.2, h.1.symm⟩, fun h => ⟨h.2.symm, h.1⟩⟩
  · refine callW_ms [.ro, .ro, .ro] ?_
    simp
    refine callX_of ((w54 _ _ _).f h1) (by simp) ?_
    simp
    have : ¬ fitP c x.1 x.2 := fun h => h1 h.1
    simp [this]
def putW (w : WorldP) (e : Int × Int) (x : CellP) : WorldP × Int := match w.2.2.1[(whereG e w.2.2.1 0).1.toNat]? with
  | some t => ((w.1, w.2.1, (putTs w.2.2.1 (whereG e w.2.2.1 0).1.toNat (whereG e w.2.2.1 0).2.toNat t e x).1, w.2.2.2), (putTs w.2.2.1 (whereG e w.2.2.1 0).1.toNat (whereG e w.2.2.1 0).2.toNat t e x).2)
  | none => (w, 0)
theorem putW_at {w : WorldP} {e : Int × Int} {x : CellP} {i k : Nat} {t : TableP} (P : AtP w.2.2.1 i k t e) : putW w e x = ((w.1, w.2.1, (putTs w.2.2.1 i k t e x).1, w.2.2.2), (putTs w.2.2.1 i k t e x).2) := by
  unfold putW
  simp only [P.hw, Int.toNat_natCast, P.ht]
noncomputable def putG (c r d : DeclsP) (w : WorldP) (e : Int × Int) (x : CellP) : WorldP × Int := @ite _ (WorldOkP c r d w ∧ fitP c x.1 x.2) (Classical.propDecidable _) (@ite _ (liveP w.1 w.2.1 e.1 e.2) (Classical.propDecidable _) (putW w e x) (w, 2)) (w, 1)
theorem putTs_ok {N : Nat} {ts : List TableP} {i k : Nat} {t : TableP} {e : Int × Int} {x : CellP} (h : ∀ t ∈ ts, okTn N t) (hr : (rowL t k).length + 1 ≤ N) : (putTs ts i k t e x).1.length ≤ ts.length + 1 ∧ (∀ y ∈ (putTs ts i k t e x).1, okTn (N + 1) y) ∧ sumN nTb (putTs ts i k t e x).1 ≤ sumN nTb ts + (2 + 5 * ((rowL t k).length + 1)) := by
  unfold putTs
  split
  · obtain ⟨h1, h2, h3⟩ := setTs_ok (i := i) (k := k) (m := (idxF t.1 x.1).toNat) (v := x.2) h
    exact ⟨by simp only; omega, fun t ht => (h2 t ht).mono (by omega), by simp only; omega⟩
  · split
    · exact ⟨by simp, fun t ht => (h t ht).mono (by omega), by simp⟩
    · have hl := insC_len x (rowL t k)
      obtain ⟨h1, h2⟩ := moveTs_ok (i := i) (k := k) (e := e) (L := insC x (rowL t k)) h (by omega)
      have h3 := moveTs_n ts i k e (insC x (rowL t k))
      rw [hl] at h3
      exact ⟨h1, h2, h3⟩
theorem putG_ok {c r d : DeclsP} {w : WorldP} {e : Int × Int} {x : CellP} (h : okW w) (hn : cW w ≤ 2^20) : okW (putG c r d w e x).1 ∧ nW (putG c r d w e x).1 ≤ nW w + 100 := by
  unfold putG
  split
  · rename_i hw
    split
    · rename_i hl
      obtain ⟨i, k, t, P, E, hcp, h12, h40⟩ := live_atP h hw.1 hl
      rw [putW_at P]
      obtain ⟨n1, n2, n3, n4, n5⟩ := okN hn
      have hrl := rowL_len (k := k) (E.s t (List.mem_of_getElem? P.ht))
      have hcl := colsP_len hcp
      obtain ⟨a1, a2, a3⟩ := putTs_ok (i := i) (k := k) (t := t) (e := e) (x := x) n4 (by omega)
      refine ⟨⟨by simp only; omega, by simp only; omega, ⟨by simp only; omega, fun t ht => (a2 t ht).okT (by omega)⟩, by simp only; omega⟩, ?_⟩
      unfold nW
      simp only
      omega
    · exact ⟨h, by simp⟩
  · exact ⟨h, by simp⟩
theorem W49d (g f : List Int) (ts : List TableP) (rs : List ValP) (e : Int × Int) (x : CellP) (hg : g.length ≤ 2^36) (hf : f.length ≤ 2^36) (hlv : ¬ liveP g f e.1 e.2) : Contract Tryz.prog false 49 [.own, .ro, .ro, .ro] [worldO g f ts rs, .ag (eT e), .i .i64 x.1, valV x.2] [worldO g f ts rs, .i .i64 2] [none, none, none, none] := by
  refine mk_contract [none, none, none, none] Tryz.func49 (c := Tryz.f49.body.get!) (by kernel_rfl) k49 r49 (of_decide_eq_true rfl) fun _ => ?_
  have hlive := (w67 g f e.1 e.2 (by omega) (by omega)).f hlv
  simp only [entsR, entT] at hlive
  unfold c49; unfold valV; simp
  refine callW_ms [.ro, .ro] ?_
  simp
  refine callX_of hlive (by simp) ?_
  simp
theorem W51d (g f : List Int) (ts : List TableP) (rs : List ValP) (e : Int × Int) (x : CellP) (hg : g.length ≤ 2^36) (hf : f.length ≤ 2^36) (hlv : ¬ liveP g f e.1 e.2) : Contract Tryz.prog false 51 [.own, .ro, .ro] [.po true [.sl true 1 (g.map iT), .sl true 1 (f.map iT), .sl true 3 (ts.map tbO), .sl true 4 (rs.map vT)], .ag (eT e), .ag (clT x)] [.i .i64 2] [some (.po true [.sl true 1 (g.map iT), .sl true 1 (f.map iT), .sl true 3 (ts.map tbO), .sl true 4 (rs.map vT)])] := by
  refine mk_contract [some [(1, 0)]] Tryz.func51 (c := Tryz.f51.body.get!) (by kernel_rfl) k51 r51 (of_decide_eq_true rfl) fun _ => ?_
  have hlive := (W83w g f ts rs e.1 e.2 (by omega) (by omega)).f hlv
  simp only [entT] at hlive
  unfold c51; simp
  refine callW_ms [.ro, .ro] ?_
  simp
  refine callX_of hlive (by simp) ?_
  simp
set_option maxRecDepth 100000 in
theorem w18 (c r d : DeclsP) (w : WorldP) (e : Int × Int) (x : CellP) (h : okW w) (hc : c.length ≤ 2^40) (hr : r.length ≤ 2^40) (he : d.length ≤ 2^40) (hf : fW w) (hx : valOkF x.2) : Contract Tryz.prog false 18 [.ro, .ro, .ro, .ro, .ro] [regR c r d, worldR w.1 w.2.1 w.2.2.1 w.2.2.2, .ag (eT e), .i .i64 x.1, valV x.2] [worldO (putG c r d w e x).1.1 (putG c r d w e x).1.2.1 (putG c r d w e x).1.2.2.1 (putG c r d w e x).1.2.2.2, .i .i64 (putG c r d w e x).2] [] := by
  refine mk_contract [] Tryz.func18 (c := Tryz.f18.body.get!) (by kernel_rfl) k18 r18 (of_decide_eq_true rfl) fun _ => ?_
  have hOk := w27 c r d w h hc hr he hf.1 hf.2
  have hCp := w28 w h
  have hFi := w48 c r d x.1 x.2 hx hc
  have hh := h
  obtain ⟨h1, h2, ⟨h3, h4⟩, h5⟩ := h
  unfold regR at hOk hFi ⊢
  unfold valV at hFi
  by_cases hw : WorldOkP c r d w
  rotate_left
  · have hF : putG c r d w e x = (w, 1) := by unfold putG; rw [if_neg fun h => hw h.1]
    rw [hF]
    unfold c18; unfold valV; simp
    refine callW_ms [.ro, .ro] ?_
    simp
    refine callX_of (hOk.f hw) (by simp) ?_
    simp
    refine callW_ms [.ro] ?_
    simp
    refine callX_of hCp (by simp) ?_
    simp
  by_cases hfi : fitP c x.1 x.2
  rotate_left
  · have hF : putG c r d w e x = (w, 1) := by unfold putG; rw [if_neg fun h => hfi h.2]
    rw [hF]
    unfold c18; unfold valV; simp
    refine callW_ms [.ro, .ro] ?_
    simp
    refine callX_of (hOk.t hw) (by simp) ?_
    simp
    refine callW_ms [.ro, .ro, .ro] ?_
    simp
    refine callX_of (hFi.f hfi) (by simp) ?_
    simp
    refine callW_ms [.ro] ?_
    simp
    refine callX_of hCp (by simp) ?_
    simp
  have hK : Contract Tryz.prog false 49 [.own, .ro, .ro, .ro] [worldO w.1 w.2.1 w.2.2.1 w.2.2.2, .ag (eT e), .i .i64 x.1, valV x.2] [worldO (putG c r d w e x).1.1 (putG c r d w e x).1.2.1 (putG c r d w e x).1.2.2.1 (putG c r d w e x).1.2.2.2, .i .i64 (putG c r d w e x).2] [none, none, none, none] := by
    unfold putG
    rw [if_pos ⟨hw, hfi⟩]
    by_cases hlv : liveP w.1 w.2.1 e.1 e.2
    · rw [if_pos hlv]
      obtain ⟨i, k, t, P, E, hcp, h12, h40⟩ := live_atP hh hw hlv
      rw [putW_at P]
      exact w49 w.1 w.2.1 w.2.2.1 w.2.2.2 i k t e x h1 h2 h5 E P hlv
    · rw [if_neg hlv]
      exact W49d w.1 w.2.1 w.2.2.1 w.2.2.2 e x h1 h2 hlv
  generalize putG c r d w e x = o at *
  obtain ⟨o, oc⟩ := o
  simp only [valV] at hK ⊢
  unfold c18; simp
  refine callW_ms [.ro, .ro] ?_
  simp
  refine callX_of (hOk.t hw) (by simp) ?_
  simp
  refine callW_ms [.ro, .ro, .ro] ?_
  simp
  refine callX_of (hFi.t hfi) (by simp) ?_
  simp
  refine callW_ms [.ro] ?_
  simp
  refine callX_of hCp (by simp) ?_
  simp
  refine callW_ms [.own, .ro, .ro, .ro] ?_
  simp
  refine callX_of hK (by simp) ?_
  simp
set_option maxRecDepth 100000 in
theorem w20 (c r d : DeclsP) (w : WorldP) (e : Int × Int) (x : CellP) (h : okW w) (hn : cW w ≤ 2^20) (hc : c.length ≤ 2^40) (hr : r.length ≤ 2^40) (he : d.length ≤ 2^40) (hs : ∀ l ∈ [c, r, d], ∀ d ∈ l, d.1.size ≤ 2^40) : Contract Tryz.prog false 20 [.ro, .ro, .ro, .ro, .ro] [regR c r d, worldR w.1 w.2.1 w.2.2.1 w.2.2.2, .ag (eT e), .i .i64 x.1, valV x.2] [worldO (putG c r d w e x).1.1 (putG c r d w e x).1.2.1 (putG c r d w e x).1.2.2.1 (putG c r d w e x).1.2.2.2, .i .i64 (putG c r d w e x).2] [] := by
  refine mk_contract [] Tryz.func20 (c := Tryz.f20.body.get!) (by kernel_rfl) k20 r20 (of_decide_eq_true rfl) fun _ => ?_
  have hOk := w35 c r d w h hc hr he hs
  have hCp := w34 w h
  have hko := (putG_ok (c := c) (r := r) (d := d) (e := e) (x := x) h hn).1
  have hCp2 := w34 (putG c r d w e x).1 hko
  have hFi := w50 c r d x hc
  have hh := h
  obtain ⟨h1, h2, ⟨h3, h4⟩, h5⟩ := h
  unfold regR at hOk ⊢
  by_cases hw : WorldOkP c r d w
  rotate_left
  · have hF : putG c r d w e x = (w, 1) := by unfold putG; rw [if_neg fun h => hw h.1]
    rw [hF]
    unfold c20; unfold valV; simp
    refine callW_ms [.ro] ?_
    simp
    refine callX_of hCp (by simp) ?_
    simp
    refine callW_ms [.ro, .ro] ?_
    simp
    refine callX_of (hOk.f hw) (by simp) ?_
    simp
  by_cases hfi : fitP c x.1 x.2
  rotate_left
  · have hF : putG c r d w e x = (w, 1) := by unfold putG; rw [if_neg fun h => hfi h.2]
    rw [hF]
    unfold c20; unfold valV; simp
    refine callW_ms [.ro] ?_
    simp
    refine callX_of hCp (by simp) ?_
    simp
    refine callW_ms [.ro, .ro] ?_
    simp
    refine callX_of (hOk.t hw) (by simp) ?_
    simp
    refine callW_ms [.ro, .ro] ?_
    simp
    refine callX_of (hFi.f hfi) (by simp) ?_
    simp
  have hK : Contract Tryz.prog false 51 [.own, .ro, .ro] [.po true [.sl true 1 (w.1.map iT), .sl true 1 (w.2.1.map iT), .sl true 3 (w.2.2.1.map tbO), .sl true 4 (w.2.2.2.map vT)], .ag (eT e), .ag (clT x)] [.i .i64 (putG c r d w e x).2] [some (.po true [.sl true 1 ((putG c r d w e x).1.1.map iT), .sl true 1 ((putG c r d w e x).1.2.1.map iT), .sl true 3 ((putG c r d w e x).1.2.2.1.map tbO), .sl true 4 ((putG c r d w e x).1.2.2.2.map vT)])] := by
    unfold putG
    rw [if_pos ⟨hw, hfi⟩]
    by_cases hlv : liveP w.1 w.2.1 e.1 e.2
    · rw [if_pos hlv]
      obtain ⟨i, k, t, P, E, hcp, h12, h40⟩ := live_atP hh hw hlv
      rw [putW_at P]
      exact w51 w.1 w.2.1 w.2.2.1 w.2.2.2 i k c.length t e x h1 h2 h5 E P hlv h40 h12 hcp hfi.1
    · rw [if_neg hlv]
      exact W51d w.1 w.2.1 w.2.2.1 w.2.2.2 e x h1 h2 hlv
  generalize putG c r d w e x = o at *
  obtain ⟨o, oc⟩ := o
  simp only [valV] at hK hCp2 ⊢
  unfold c20; simp
  refine callW_ms [.ro] ?_
  simp
  refine callX_of hCp (by simp) ?_
  simp
  refine callW_ms [.ro, .ro] ?_
  simp
  refine callX_of (hOk.t hw) (by simp) ?_
  simp
  refine callW_ms [.ro, .ro] ?_
  simp
  refine callX_of (hFi.t hfi) (by simp) ?_
  simp
  refine callW_ms [.own, .ro, .ro] ?_
  simp
  refine callX_of hK (by simp) ?_
  simp
  refine callW_ms [.ro] ?_
  simp
  refine callX_of hCp2 (by simp) ?_
  simp
end Go.Proofs.YtehmdblkkpdmoaaGreatT


namespace Go.Proofs.YtehmdblkkpdmoaaGreatT
set_option linter.unusedVariables false
set_option linter.unusedSimpArgs false
open Go
set_option maxHeartbeats 2000000 in
set_option maxRecDepth 100000 in
theorem w4 (c r d : DeclsP) (w : WorldP) (e : Int × Int) (x : CellP) (hc : bndD c) (hr : bndD r) (he : bndD d) (hb : bdW w) (hf : fW w) (hx : valOkF x.2) : Contract Tryz.prog false 4 [.ro, .ro, .ro, .ro, .ro] [regR c r d, worldR w.1 w.2.1 w.2.2.1 w.2.2.2, .ag (eT e), .i .i64 x.1, valV x.2] [.b true] [] := by
  refine mk_contract [] Tryz.func4 (c := Tryz.f4.body.get!) (by kernel_rfl) k4 r4 (of_decide_eq_true rfl) fun _ => ?_
  unfold c4; unfold regR valV; simp
  refine callW_ms [.ro, .ro] ?_
  simp [regR]
  refine callX_of (w6 c r d _ hc hr he (by omega) (by omega)) (by simp) ?_
  simp
  intro h
  obtain ⟨g0, g1, hok⟩ := szRegF_ok (k := 2^20) (by omega) (by omega) (by omega : ¬ szRegF c r d 1048576 < 0)
  obtain ⟨hc2, hr2, he2⟩ := id hok
  have hall := okD_all ⟨okD_mono hok.1 (by omega : 2^20 ≤ 2^40), okD_mono hok.2.1 (by omega), okD_mono hok.2.2 (by omega)⟩
  have := hc2.1
  have := hr2.1
  have := he2.1
  generalize szRegF c r d 1048576 = m at *
  refine callW_ms [.ro, .ro] ?_
  simp
  refine callX_of (w7 w m hb (by omega) (by omega)) (by simp) ?_
  simp
  intro h2
  obtain ⟨hw2, hcW⟩ := szW_ok (w := w) (n := m) (by omega) (by omega) (by omega : ¬ szWF w m < 0)
  have hn4 := nW_le w
  have hcn : cW w ≤ 2^20 := by omega
  have hS := w18 c r d w e x hw2 (by omega) (by omega) (by omega) hf hx
  have hI := w20 c r d w e x hw2 hcn (by omega) (by omega) (by omega) hall
  obtain ⟨ho, hno⟩ := putG_ok (c := c) (r := r) (d := d) (e := e) (x := x) hw2 hcn
  generalize putG c r d w e x = o at *
  obtain ⟨o, oc⟩ := o
  simp only [valV] at hS hI ho hno
  refine callW_ms [.ro] ?_
  simp [regR]
  refine callX_of (w9 c r d (by omega) (by omega) (by omega)) (by simp) ?_
  simp [regO]
  refine callW_ms [.ro] ?_
  simp
  refine callX_of (w10 w hw2) (by simp) ?_
  simp
  refine callW_ms [.ro] ?_
  simp [entT]
  refine callX_of (w11 e.1 e.2) (by simp) ?_
  simp [entT]
  refine callW_ms [.ro] ?_
  simp [valV]
  refine callX_of (w19 x.2) (by simp) ?_
  simp [valV]
  refine callW_ms [.ro, .ro, .ro, .ro, .ro] ?_
  simp
  refine callX_of hS (by simp [regR]) ?_
  simp
  refine callW_ms [.ro] ?_
  simp [regR]
  refine callX_of (w9 c r d (by omega) (by omega) (by omega)) (by simp) ?_
  simp [regO]
  refine callW_ms [.ro] ?_
  simp
  refine callX_of (w10 w hw2) (by simp) ?_
  simp
  refine callW_ms [.ro] ?_
  simp [entT]
  refine callX_of (w11 e.1 e.2) (by simp) ?_
  simp [entT]
  refine callW_ms [.ro] ?_
  simp [valV]
  refine callX_of (w19 x.2) (by simp) ?_
  simp [valV]
  refine callW_ms [.ro, .ro, .ro, .ro, .ro] ?_
  simp
  refine callX_of hI (by simp [regR]) ?_
  simp
  refine callW_ms [.ro, .ro] ?_
  simp
  refine callX_of (w13 o ho) (by simp) ?_
  simp
  refine callW_ms [.ro] ?_
  simp [regR]
  refine callX_of (w9 c r d (by omega) (by omega) (by omega)) (by simp) ?_
  simp [regO]
  refine callW_ms [.ro, .ro] ?_
  simp [regR]
  refine callX_of (w14 c r d c r d (by omega) (by omega) (by omega) (by omega) (by omega) (by omega)) (by simp) ?_
  simp
  refine callW_ms [.ro] ?_
  simp
  refine callX_of (w10 w hw2) (by simp) ?_
  simp
  refine callW_ms [.ro, .ro] ?_
  simp
  refine callX_of (w13 w hw2) (by simp) ?_
  simp
  have hk1 : ¬ (1 + 2 * (c.length : Int) + 2 * r.length + 2 * d.length < 0) := by omega
  obtain ⟨xr, ⟨i1, i2, i3⟩, hC⟩ := w15 c r d 1 (by omega) (by omega) (by omega) (by omega) (by omega)
  refine callW_ms [.own, .ro] ?_
  simp [regO]
  refine callX_of hC (by simp) ?_
  simp [hk1, i1, i2, i3]
  have hk2 : ¬ (1 + 2 * (c.length : Int) + 2 * r.length + 2 * d.length + nW w < 0) := by omega
  refine callW_ms [.own, .ro] ?_
  simp
  refine callX_of (w16 w (1 + 2 * (c.length : Int) + 2 * r.length + 2 * d.length) hw2 (by omega) (by omega)) (by simp) ?_
  simp [hk2]
  refine callW_ms [.ro, .ro] ?_
  simp
  refine callX_of (w13 o ho) (by simp) ?_
  simp
  refine callW_ms [.own, .ro] ?_
  simp
  refine callX_of (w16 o 1 ho (by omega) (by omega)) (by simp) ?_
  simp
  refine callW_ms [.ro, .ro] ?_
  simp
  refine callX_of (w17 o 1 ho (by omega) (by omega)) (by simp) ?_
  simp
  refine ⟨by omega, fun _ => ?_⟩
  refine callW_ms [.ro] ?_
  simp [regR]
  refine callX_of (w9 c r d (by omega) (by omega) (by omega)) (by simp) ?_
  simp [regO]
  refine callW_ms [.ro] ?_
  simp
  refine callX_of (w10 w hw2) (by simp) ?_
  simp
  refine callW_ms [.ro] ?_
  simp [entT]
  refine callX_of (w11 e.1 e.2) (by simp) ?_
  simp [entT]
  refine callW_ms [.ro] ?_
  simp [valV]
  refine callX_of (w19 x.2) (by simp) ?_
  simp [valV]
  refine callW_ms [.ro, .ro, .ro, .ro, .ro] ?_
  simp
  refine callX_of hI (by simp [regR]) ?_
  simp
  refine callW_ms [.ro, .ro] ?_
  simp
  refine callX_of (w13 o ho) (by simp) ?_
  simp
  refine callW_ms [.ro, .ro] ?_
  simp
  refine callX_of (w17 o 1 ho (by omega) (by omega)) (by simp) ?_
  simp
  omega
end Go.Proofs.YtehmdblkkpdmoaaGreatT

