/- FnAheadOf, FnThings: the plain laws, the walks. -/
import Derived.Test.YtloodkhdngipbaaKo3
namespace Go.Proofs.YtloodkhdngipbaaT
set_option linter.unusedVariables false
set_option linter.unusedSimpArgs false
open Go

/- laws.sameInts -/
def c42 : TCode := (.seq (.ops [⟨(some 4), 6, .mv (.c (.b false)), none, []⟩])
  (.seq (.seq (.ops [⟨(some 6), 8, .mv (.t 0), none, []⟩, ⟨(some 7), 9, .len false (.t 6), none, []⟩, ⟨(some 8), 10, .mv (.t 1), none, []⟩, ⟨(some 9), 11, .len false (.t 8), none, []⟩, ⟨(some 10), 12, .bin .neq (.t 7) (.t 9), none, []⟩])
  (.cond (.t 10)
  (.seq (.ops [⟨(some 4), 6, .mv (.c (.b false)), none, []⟩])
  .ret)
  .skip))
  (.seq (.seq (.ops [⟨(some 5), 7, .mv (.c (.i .i64 0)), none, []⟩])
  (.block 0 (.loop (.seq (.seq (.ops [⟨(some 11), 13, .mv (.t 5), none, []⟩, ⟨(some 12), 14, .mv (.t 0), none, []⟩, ⟨(some 13), 15, .len false (.t 12), none, []⟩, ⟨(some 14), 16, .bin .lss (.t 11) (.t 13), none, []⟩])
  (.cond (.t 14)
  .skip
  (.exit 0)))
  (.seq (.block 1 (.seq (.draw [⟨(some 17), 19, .mv (.t 0), none, []⟩, ⟨(some 18), 20, .mv (.t 5), none, []⟩, ⟨(some 19), 21, .iaddr 1 (.t 17) (.t 18), none, []⟩, ⟨(some 20), 22, .load false 1 (.t 19), none, []⟩, ⟨(some 21), 23, .mv (.t 1), none, []⟩, ⟨(some 22), 24, .mv (.t 5), none, []⟩, ⟨(some 23), 25, .iaddr 1 (.t 21) (.t 22), none, []⟩, ⟨(some 24), 26, .load false 1 (.t 23), none, []⟩, ⟨(some 25), 27, .bin .neq (.t 20) (.t 24), none, []⟩])
  (.cond (.t 25)
  (.seq (.ops [⟨(some 4), 6, .mv (.c (.b false)), none, []⟩])
  .ret)
  .skip)))
  (.ops [⟨(some 15), 17, .mv (.t 5), none, []⟩, ⟨(some 16), 18, .bin .add (.t 15) (.c (.i .i64 1)), none, []⟩, ⟨(some 5), 7, .mv (.t 16), none, []⟩]))))))
  (.seq (.ops [⟨(some 4), 6, .mv (.c (.b true)), none, []⟩])
  .ret))))
theorem k42 : compCode Try.prog Try.f42.ntmps Try.f42.body.get! = some c42 := by kernel_rfl
theorem r42 : resTmps Try.prog Try.f42.results.toList = some [.tmp 4] := by kernel_rfl
/- laws.FnAheadOf -/
def c9 : TCode := (.seq (.ops [⟨(some 2), 4, .mv (.c (.b false)), none, []⟩])
  (.seq (.seq (.ops [⟨(some 13), 15, .mv (.t 0), none, []⟩, ⟨(some 14), 16, .call 32 [((.t 13), 0)], none, []⟩])
  (.cond (.t 14)
  (.seq (.ops [⟨(some 2), 4, .mv (.c (.b true)), none, []⟩])
  .ret)
  .skip))
  (.seq (.ops [⟨(some 16), 18, .mv (.t 0), none, []⟩, ⟨(some 17), 19, .call 36 [((.t 16), 0)], none, []⟩, ⟨(some 15), 17, .mv (.t 17), none, []⟩, ⟨(some 18), 20, .ext 0 (.t 15), none, []⟩, ⟨(some 19), 21, .ext 1 (.t 15), none, []⟩, ⟨(some 3), 5, .box 2 (.c (.ag [(.sl true 1 []), (.sl true 1 [])])), none, []⟩, ⟨none, 1003006, .store 2 (.t 3) (.t 18), none, []⟩, ⟨(some 4), 6, .mv (.t 19), none, []⟩])
  (.seq (.ops [⟨(some 21), 23, .load true 2 (.t 3), none, []⟩, ⟨(some 22), 24, .mv (.t 4), none, []⟩, ⟨(some 23), 25, .call 37 [((.t 21), 0), ((.t 22), 0)], none, []⟩, ⟨(some 20), 22, .mv (.t 23), none, []⟩, ⟨(some 24), 26, .ext 0 (.t 20), none, []⟩, ⟨(some 25), 27, .ext 1 (.t 20), none, []⟩, ⟨(some 5), 7, .mv (.t 24), none, []⟩, ⟨(some 6), 8, .mv (.t 25), none, []⟩])
  (.seq (.ops [⟨(some 27), 29, .load true 2 (.t 3), none, []⟩, ⟨(some 28), 30, .mv (.t 4), none, []⟩, ⟨(some 29), 31, .call 38 [((.t 27), 0), ((.t 28), 0)], none, []⟩, ⟨(some 26), 28, .mv (.t 29), none, []⟩, ⟨(some 30), 32, .ext 0 (.t 26), none, []⟩, ⟨(some 31), 33, .ext 1 (.t 26), none, []⟩, ⟨(some 7), 9, .mv (.t 30), none, []⟩, ⟨(some 8), 10, .mv (.t 31), none, []⟩])
  (.seq (.seq (.ops [⟨(some 32), 34, .mv (.t 8), none, []⟩, ⟨(some 33), 35, .un .not (.t 32), none, []⟩, ⟨(some 34), 36, .mv (.t 33), none, []⟩, ⟨(some 35), 37, .mv (.t 6), (some (34, false)), []⟩, ⟨(some 36), 38, .un .not (.t 35), (some (34, false)), []⟩, ⟨(some 37), 39, .pick (.t 34) (.c (.b true)) (.t 36), none, []⟩])
  (.cond (.t 37)
  (.seq (.ops [⟨(some 38), 40, .mv (.t 6), none, []⟩, ⟨(some 39), 41, .mv (.t 8), none, []⟩, ⟨(some 40), 42, .eqs false false [.b] (.t 38) (.t 39), none, []⟩, ⟨(some 41), 43, .mv (.t 40), none, []⟩, ⟨(some 42), 44, .mv (.t 5), (some (41, true)), []⟩, ⟨(some 43), 45, .len false (.t 42), (some (41, true)), []⟩, ⟨(some 44), 46, .bin .eql (.t 43) (.c (.i .i64 0)), (some (41, true)), []⟩, ⟨(some 45), 47, .pick (.t 41) (.t 44) (.c (.b false)), none, []⟩, ⟨(some 2), 4, .mv (.t 45), none, []⟩])
  .ret)
  .skip))
  (.seq (.seq (.ops [⟨(some 46), 48, .mv (.t 5), none, []⟩, ⟨(some 47), 49, .len false (.t 46), none, []⟩, ⟨(some 48), 50, .mv (.t 4), none, []⟩, ⟨(some 49), 51, .bin .neq (.t 47) (.t 48), none, []⟩])
  (.cond (.t 49)
  (.seq (.ops [⟨(some 2), 4, .mv (.c (.b false)), none, []⟩])
  .ret)
  .skip))
  (.seq (.seq (.ops [⟨(some 9), 11, .mv (.c (.i .i64 0)), none, []⟩])
  (.block 0 (.loop (.seq (.seq (.ops [⟨(some 50), 52, .mv (.t 9), none, []⟩, ⟨(some 51), 53, .mv (.t 4), none, []⟩, ⟨(some 52), 54, .bin .lss (.t 50) (.t 51), none, []⟩, ⟨(some 53), 55, .mv (.t 52), none, []⟩, ⟨(some 54), 56, .mv (.t 9), (some (53, true)), []⟩, ⟨(some 55), 57, .bin .lss (.t 54) (.c (.i .i64 40)), (some (53, true)), []⟩, ⟨(some 56), 58, .pick (.t 53) (.t 55) (.c (.b false)), none, []⟩])
  (.cond (.t 56)
  .skip
  (.exit 0)))
  (.seq (.block 1 (.seq (.ops [⟨(some 60), 62, .load true 2 (.t 3), none, []⟩, ⟨(some 61), 63, .call 39 [((.t 60), 0)], none, []⟩, ⟨(some 59), 61, .mv (.t 61), none, []⟩, ⟨(some 62), 64, .ext 0 (.t 59), none, []⟩, ⟨(some 63), 65, .ext 1 (.t 59), none, []⟩, ⟨(some 64), 66, .ext 2 (.t 59), none, []⟩, ⟨(some 10), 12, .box 2 (.c (.ag [(.sl true 1 []), (.sl true 1 [])])), none, []⟩, ⟨(some 11), 13, .box 2 (.c (.ag [(.i .i64 0), (.i .i64 0)])), none, []⟩, ⟨none, 1013008, .store 2 (.t 10) (.t 62), none, []⟩, ⟨none, 1013009, .store 2 (.t 11) (.t 63), none, []⟩, ⟨(some 12), 14, .mv (.t 64), none, []⟩])
  (.seq (.seq (.draw [⟨(some 65), 67, .mv (.t 12), none, []⟩, ⟨(some 66), 68, .bin .neq (.t 65) (.c (.i .i64 0)), none, []⟩, ⟨(some 67), 69, .mv (.t 66), none, []⟩, ⟨(some 68), 70, .load true 2 (.t 11), (some (67, false)), []⟩, ⟨(some 69), 71, .mv (.t 5), (some (67, false)), []⟩, ⟨(some 70), 72, .mv (.t 9), (some (67, false)), []⟩, ⟨(some 71), 73, .iaddr 2 (.t 69) (.t 70), (some (67, false)), []⟩, ⟨(some 72), 74, .load true 2 (.t 71), (some (67, false)), []⟩, ⟨(some 73), 75, .eqs true true [.i, .i] (.t 68) (.t 72), (some (67, false)), []⟩, ⟨(some 74), 76, .pick (.t 67) (.c (.b true)) (.t 73), none, []⟩])
  (.cond (.t 74)
  (.seq (.ops [⟨(some 2), 4, .mv (.c (.b false)), none, []⟩])
  .ret)
  .skip))
  (.ops [⟨(some 75), 77, .load true 2 (.t 10), none, []⟩, ⟨none, 1016001, .store 2 (.t 3) (.t 75), none, []⟩]))))
  (.ops [⟨(some 57), 59, .mv (.t 9), none, []⟩, ⟨(some 58), 60, .bin .add (.t 57) (.c (.i .i64 1)), none, []⟩, ⟨(some 9), 11, .mv (.t 58), none, []⟩]))))))
  (.seq (.ops [⟨(some 2), 4, .mv (.c (.b true)), none, []⟩])
  .ret)))))))))
theorem k9 : compCode Try.prog Try.f9.ntmps Try.f9.body.get! = some c9 := by kernel_rfl
theorem r9 : resTmps Try.prog Try.f9.results.toList = some [.tmp 2] := by kernel_rfl
/- laws.FnThings -/
def c10 : TCode := (.seq (.ops [⟨(some 2), 4, .mv (.c (.b false)), none, []⟩])
  (.seq (.seq (.ops [⟨(some 15), 17, .mv (.t 0), none, []⟩, ⟨(some 16), 18, .call 32 [((.t 15), 0)], none, []⟩])
  (.cond (.t 16)
  (.seq (.ops [⟨(some 2), 4, .mv (.c (.b true)), none, []⟩])
  .ret)
  .skip))
  (.seq (.ops [⟨(some 17), 19, .mv (.t 0), none, []⟩, ⟨(some 18), 20, .call 40 [((.t 17), 0)], none, []⟩, ⟨(some 3), 5, .box 2 (.c (.ag [(.sl true 1 []), (.sl true 1 [])])), none, []⟩, ⟨none, 1003003, .store 2 (.t 3) (.t 18), none, []⟩])
  (.seq (.ops [⟨(some 20), 22, .load true 2 (.t 3), none, []⟩, ⟨(some 21), 23, .call 39 [((.t 20), 0)], none, []⟩, ⟨(some 19), 21, .mv (.t 21), none, []⟩, ⟨(some 22), 24, .ext 0 (.t 19), none, []⟩, ⟨(some 23), 25, .ext 1 (.t 19), none, []⟩, ⟨(some 24), 26, .ext 2 (.t 19), none, []⟩, ⟨(some 4), 6, .box 2 (.c (.ag [(.sl true 1 []), (.sl true 1 [])])), none, []⟩, ⟨(some 5), 7, .box 2 (.c (.ag [(.i .i64 0), (.i .i64 0)])), none, []⟩, ⟨none, 1004008, .store 2 (.t 4) (.t 22), none, []⟩, ⟨none, 1004009, .store 2 (.t 5) (.t 23), none, []⟩, ⟨(some 6), 8, .mv (.t 24), none, []⟩])
  (.seq (.ops [⟨(some 26), 28, .load true 2 (.t 3), none, []⟩, ⟨(some 27), 29, .call 41 [((.t 26), 0)], none, []⟩, ⟨(some 25), 27, .mv (.t 27), none, []⟩, ⟨(some 28), 30, .ext 0 (.t 25), none, []⟩, ⟨(some 29), 31, .ext 1 (.t 25), none, []⟩, ⟨(some 30), 32, .ext 2 (.t 25), none, []⟩, ⟨(some 7), 9, .box 2 (.c (.ag [(.sl true 1 []), (.sl true 1 [])])), none, []⟩, ⟨(some 8), 10, .box 2 (.c (.ag [(.i .i64 0), (.i .i64 0)])), none, []⟩, ⟨none, 1005008, .store 2 (.t 7) (.t 28), none, []⟩, ⟨none, 1005009, .store 2 (.t 8) (.t 29), none, []⟩, ⟨(some 9), 11, .mv (.t 30), none, []⟩])
  (.seq (.seq (.ops [⟨(some 31), 33, .mv (.t 9), none, []⟩, ⟨(some 32), 34, .bin .neq (.t 31) (.c (.i .i64 0)), none, []⟩])
  (.cond (.t 32)
  (.seq (.ops [⟨(some 33), 35, .mv (.t 6), none, []⟩, ⟨(some 34), 36, .mv (.t 9), none, []⟩, ⟨(some 35), 37, .bin .eql (.t 33) (.t 34), none, []⟩, ⟨(some 36), 38, .mv (.t 35), none, []⟩, ⟨(some 37), 39, .faddr 0 1 (.t 4), (some (36, true)), []⟩, ⟨(some 38), 40, .load false 1 (.t 37), (some (36, true)), []⟩, ⟨(some 39), 41, .faddr 0 1 (.t 3), (some (36, true)), []⟩, ⟨(some 40), 42, .load false 1 (.t 39), (some (36, true)), []⟩, ⟨(some 41), 43, .call 42 [((.t 38), 0), ((.t 40), 0)], (some (36, true)), []⟩, ⟨(some 42), 44, .pick (.t 36) (.t 41) (.c (.b false)), none, []⟩, ⟨(some 43), 45, .mv (.t 42), none, []⟩, ⟨(some 44), 46, .faddr 1 1 (.t 4), (some (43, true)), []⟩, ⟨(some 45), 47, .load false 1 (.t 44), (some (43, true)), []⟩, ⟨(some 46), 48, .faddr 1 1 (.t 3), (some (43, true)), []⟩, ⟨(some 47), 49, .load false 1 (.t 46), (some (43, true)), []⟩, ⟨(some 48), 50, .call 42 [((.t 45), 0), ((.t 47), 0)], (some (43, true)), []⟩, ⟨(some 49), 51, .pick (.t 43) (.t 48) (.c (.b false)), none, []⟩, ⟨(some 2), 4, .mv (.t 49), none, []⟩])
  .ret)
  .skip))
  (.seq (.ops [⟨(some 51), 53, .load true 2 (.t 4), none, []⟩, ⟨(some 52), 54, .load true 2 (.t 5), none, []⟩, ⟨(some 53), 55, .call 43 [((.t 51), 0), ((.t 52), 0)], none, []⟩, ⟨(some 50), 52, .mv (.t 53), none, []⟩, ⟨(some 54), 56, .ext 0 (.t 50), none, []⟩, ⟨(some 55), 57, .ext 1 (.t 50), none, []⟩, ⟨(some 10), 12, .box 2 (.c (.ag [(.sl true 1 []), (.sl true 1 [])])), none, []⟩, ⟨none, 1008007, .store 2 (.t 10) (.t 54), none, []⟩, ⟨(some 11), 13, .mv (.t 55), none, []⟩])
  (.seq (.ops [⟨(some 57), 59, .load true 2 (.t 10), none, []⟩, ⟨(some 58), 60, .call 39 [((.t 57), 0)], none, []⟩, ⟨(some 56), 58, .mv (.t 58), none, []⟩, ⟨(some 59), 61, .ext 0 (.t 56), none, []⟩, ⟨(some 60), 62, .ext 1 (.t 56), none, []⟩, ⟨(some 61), 63, .ext 2 (.t 56), none, []⟩, ⟨(some 12), 14, .box 2 (.c (.ag [(.sl true 1 []), (.sl true 1 [])])), none, []⟩, ⟨(some 13), 15, .box 2 (.c (.ag [(.i .i64 0), (.i .i64 0)])), none, []⟩, ⟨none, 1009008, .store 2 (.t 12) (.t 59), none, []⟩, ⟨none, 1009009, .store 2 (.t 13) (.t 60), none, []⟩, ⟨(some 14), 16, .mv (.t 61), none, []⟩])
  (.seq (.seq (.ops [⟨(some 62), 64, .mv (.t 6), none, []⟩, ⟨(some 63), 65, .bin .neq (.t 62) (.c (.i .i64 0)), none, []⟩, ⟨(some 64), 66, .mv (.t 63), none, []⟩, ⟨(some 65), 67, .mv (.t 11), (some (64, false)), []⟩, ⟨(some 66), 68, .bin .neq (.t 65) (.c (.i .i64 0)), (some (64, false)), []⟩, ⟨(some 67), 69, .pick (.t 64) (.c (.b true)) (.t 66), none, []⟩, ⟨(some 68), 70, .mv (.t 67), none, []⟩, ⟨(some 69), 71, .mv (.t 14), (some (68, false)), []⟩, ⟨(some 70), 72, .bin .neq (.t 69) (.c (.i .i64 0)), (some (68, false)), []⟩, ⟨(some 71), 73, .pick (.t 68) (.c (.b true)) (.t 70), none, []⟩, ⟨(some 72), 74, .mv (.t 71), none, []⟩, ⟨(some 73), 75, .load true 2 (.t 3), (some (72, false)), []⟩, ⟨(some 74), 76, .load true 2 (.t 5), (some (72, false)), []⟩, ⟨(some 75), 77, .call 44 [((.t 73), 0), ((.t 74), 0)], (some (72, false)), []⟩, ⟨(some 76), 78, .pick (.t 72) (.c (.b true)) (.t 75), none, []⟩, ⟨(some 77), 79, .mv (.t 76), none, []⟩, ⟨(some 78), 80, .load true 2 (.t 4), (some (77, false)), []⟩, ⟨(some 79), 81, .load true 2 (.t 5), (some (77, false)), []⟩, ⟨(some 80), 82, .call 45 [((.t 78), 0), ((.t 79), 0)], (some (77, false)), []⟩, ⟨(some 81), 83, .un .not (.t 80), (some (77, false)), []⟩, ⟨(some 82), 84, .pick (.t 77) (.c (.b true)) (.t 81), none, []⟩, ⟨(some 83), 85, .mv (.t 82), none, []⟩, ⟨(some 84), 86, .load true 2 (.t 10), (some (83, false)), []⟩, ⟨(some 85), 87, .load true 2 (.t 5), (some (83, false)), []⟩, ⟨(some 86), 88, .call 45 [((.t 84), 0), ((.t 85), 0)], (some (83, false)), []⟩, ⟨(some 87), 89, .pick (.t 83) (.c (.b true)) (.t 86), none, []⟩, ⟨(some 88), 90, .mv (.t 87), none, []⟩, ⟨(some 89), 91, .load true 2 (.t 12), (some (88, false)), []⟩, ⟨(some 90), 92, .load true 2 (.t 5), (some (88, false)), []⟩, ⟨(some 91), 93, .call 45 [((.t 89), 0), ((.t 90), 0)], (some (88, false)), []⟩, ⟨(some 92), 94, .pick (.t 88) (.c (.b true)) (.t 91), none, []⟩])
  (.cond (.t 92)
  (.seq (.ops [⟨(some 2), 4, .mv (.c (.b false)), none, []⟩])
  .ret)
  .skip))
  (.seq (.draw [⟨(some 93), 95, .faddr 0 1 (.t 13), none, []⟩, ⟨(some 94), 96, .load false 1 (.t 93), none, []⟩, ⟨(some 95), 97, .faddr 0 1 (.t 5), none, []⟩, ⟨(some 96), 98, .load false 1 (.t 95), none, []⟩, ⟨(some 97), 99, .bin .eql (.t 94) (.t 96), none, []⟩, ⟨(some 98), 100, .mv (.t 97), none, []⟩, ⟨(some 99), 101, .faddr 1 1 (.t 13), (some (98, true)), []⟩, ⟨(some 100), 102, .load false 1 (.t 99), (some (98, true)), []⟩, ⟨(some 101), 103, .faddr 1 1 (.t 5), (some (98, true)), []⟩, ⟨(some 102), 104, .load false 1 (.t 101), (some (98, true)), []⟩, ⟨(some 103), 105, .bin .neq (.t 100) (.t 102), (some (98, true)), []⟩, ⟨(some 104), 106, .pick (.t 98) (.t 103) (.c (.b false)), none, []⟩, ⟨(some 105), 107, .mv (.t 104), none, []⟩, ⟨(some 106), 108, .load true 2 (.t 12), (some (105, true)), []⟩, ⟨(some 107), 109, .load true 2 (.t 13), (some (105, true)), []⟩, ⟨(some 108), 110, .call 45 [((.t 106), 0), ((.t 107), 0)], (some (105, true)), []⟩, ⟨(some 109), 111, .pick (.t 105) (.t 108) (.c (.b false)), none, []⟩, ⟨(some 110), 112, .mv (.t 109), none, []⟩, ⟨(some 111), 113, .load true 2 (.t 4), (some (110, true)), []⟩, ⟨(some 112), 114, .call 46 [((.t 111), 0)], (some (110, true)), []⟩, ⟨(some 113), 115, .len false (.t 112), (some (110, true)), []⟩, ⟨(some 114), 116, .load true 2 (.t 3), (some (110, true)), [19]⟩, ⟨(some 115), 117, .call 47 [((.t 114), 0)], (some (110, true)), [20]⟩, ⟨(some 116), 118, .len false (.t 115), (some (110, true)), []⟩, ⟨(some 117), 119, .bin .add (.t 116) (.c (.i .i64 1)), (some (110, true)), []⟩, ⟨(some 118), 120, .bin .eql (.t 113) (.t 117), (some (110, true)), []⟩, ⟨(some 119), 121, .pick (.t 110) (.t 118) (.c (.b false)), none, []⟩, ⟨(some 120), 122, .mv (.t 119), none, []⟩, ⟨(some 121), 123, .load true 2 (.t 10), (some (120, true)), []⟩, ⟨(some 122), 124, .call 46 [((.t 121), 0)], (some (120, true)), []⟩, ⟨(some 123), 125, .len false (.t 122), (some (120, true)), []⟩, ⟨(some 124), 126, .load true 2 (.t 3), (some (120, true)), [29]⟩, ⟨(some 125), 127, .call 47 [((.t 124), 0)], (some (120, true)), [30]⟩, ⟨(some 126), 128, .len false (.t 125), (some (120, true)), []⟩, ⟨(some 127), 129, .bin .eql (.t 123) (.t 126), (some (120, true)), []⟩, ⟨(some 128), 130, .pick (.t 120) (.t 127) (.c (.b false)), none, []⟩, ⟨(some 2), 4, .mv (.t 128), none, []⟩])
  .ret))))))))))
theorem k10 : compCode Try.prog Try.f10.ntmps Try.f10.body.get! = some c10 := by kernel_rfl
theorem r10 : resTmps Try.prog Try.f10.results.toList = some [.tmp 2] := by kernel_rfl

theorem countP_ltE (f : List Int) (n : Nat) : f.countP (fun x => decide (x < ((n + 1 : Nat) : Int))) = f.countP (fun x => decide (x < (n : Int))) + f.count (n : Int) := by
  induction f with
  | nil => rfl
  | cons a l ih =>
    simp only [List.countP_cons, List.count_cons, ih, decide_eq_true_eq, beq_iff_eq]
    by_cases h1 : a < (n : Int)
    · rw [if_pos (show a < ((n + 1 : Nat) : Int) by omega), if_pos h1, if_neg (show ¬ a = (n : Int) by omega)]; omega
    · by_cases h3 : a = (n : Int)
      · rw [if_pos (show a < ((n + 1 : Nat) : Int) by omega), if_neg h1, if_pos h3]; omega
      · rw [if_neg (show ¬ a < ((n + 1 : Nat) : Int) by omega), if_neg h1, if_neg h3]; omega
theorem liveG_cntE (g : List Int) {f : List Int} (hf : f.Nodup) (n : Nat) (h0 : ∀ x ∈ f, 0 ≤ x) : (liveG g f n).length + f.countP (fun x => decide (x < (n : Int))) = n := by
  induction n with
  | zero =>
    have : f.countP (fun x => decide (x < ((0 : Nat) : Int))) = 0 := List.countP_eq_zero.2 fun x hx => by have := h0 x hx; simp; omega
    rw [this]; rfl
  | succ n ih =>
    rw [countP_ltE, hf.count]
    simp only [liveG, List.length_append]
    split <;> simp <;> omega
theorem live_lenE {g f : List Int} (h : freeOk g.length f) : (liveG g f g.length).length + f.length = g.length := by
  have := liveG_cntE g h.2 g.length fun x hx => (h.1 x hx).1
  have h2 : f.countP (fun x => decide (x < (g.length : Int))) = f.length := List.countP_eq_length.2 fun x hx => by have := (h.1 x hx).2; simpa using this
  omega
theorem w42 (a : List Int) (ha : a.length ≤ 2^40) : Contract Try.prog false 42 [.ro, .ro] [.sl false 1 (a.map iT), .sl false 1 (a.map iT)] [.b true] [] := by
  refine mk_contract [] Try.func42 (c := Try.f42.body.get!) (by kernel_rfl) k42 r42 (of_decide_eq_true rfl) fun _ => ?_
  unfold c42; simp
  refine twp_for a.length (fun j s => s.t 0 = .sl false 1 (a.map iT) ∧ s.t 1 = .sl false 1 (a.map iT) ∧ s.t 5 = .i .i64 j ∧ s.H = lk [(1, [])]) [] (by simp) ?_ ?_
  · simp
  · rintro j s hj ⟨q0, q1, q5, qH⟩
    rw [nf_of qH]
    simp [q0, q1, q5]
    intro hlt
    have hw : IntKind.i64.wrap (j + 1) = j + 1 := wrap_id (by omega) (by omega)
    obtain ⟨x, hx⟩ := get_some hlt
    simp [hx, hw, q0, q1, q5]
    exact hlt
/-- Things taken one behind the other. -/
theorem ahS_ok {g f : List Int} (h : EntsOkP g f) : ∀ (j : Nat), j ≤ f.length + (2000 - g.length) → EntsOkP (ahS g f j).1 (ahS g f j).2 ∧ AhI g f j
  | 0, _ => ⟨h, AhI.zero h⟩
  | j + 1, hj => by
    obtain ⟨h1, h2⟩ := ahS_ok h j (by omega)
    refine ⟨?_, h2.succ (by omega)⟩
    have hc := h2.code
    rw [if_pos (by omega)] at hc
    have hn : ¬ ((ahS g f j).1.length = 2000 ∧ (ahS g f j).2 = []) := by
      rintro ⟨e1, e2⟩
      simp [takeP, e1, e2] at hc
    obtain ⟨g1, f1, x, y, e, hE, _⟩ := h1.take hn
    have : ahS g f (j + 1) = (takeP (ahS g f j).1 (ahS g f j).2).1 := rfl
    rw [this, e]; exact hE
theorem ahE_get {g f : List Int} {j n : Nat} (h : j < n) : (ahE g f n)[j]? = some (takeP (ahS g f j).1 (ahS g f j).2).2.1 := by
  induction n with
  | zero => omega
  | succ n ih =>
    show (ahE g f n ++ [_])[j]? = _
    by_cases e : j = n
    · subst e; rw [List.getElem?_append_right (by simp)]; simp
    · rw [List.getElem?_append_left (by simp; omega)]; exact ih (by omega)
structure ThingsP (g f g1 f1 : List Int) (x y z : Int) : Prop where
  ok1 : EntsOkP g1 f1
  t1 : takeP g f = ((g1, f1), (x, y), 0)
  l0 : ¬ liveP g f x y
  l1 : liveP g1 f1 x y
  ok2 : EntsOkP (giveG g1 x y) (f1 ++ [x])
  l2 : ¬ liveP (giveG g1 x y) (f1 ++ [x]) x y
  t2 : takeP (giveG g1 x y) (f1 ++ [x]) = ((giveG g1 x y, f1), (x, z), 0)
  ok3 : EntsOkP (giveG g1 x y) f1
  l3 : ¬ liveP (giveG g1 x y) f1 x y
  l4 : liveP (giveG g1 x y) f1 x z
  ne : z ≠ y
  n1 : (liveG g1 f1 g1.length).length = (liveG g f g.length).length + 1
  n2 : (liveG (giveG g1 x y) (f1 ++ [x]) (giveG g1 x y).length).length = (liveG g f g.length).length
theorem things {g f : List Int} (h : EntsOkP g f) (hn : ¬ (g.length = 2000 ∧ f = [])) : ∃ g1 f1 x y z, ThingsP g f g1 f1 x y z := by
  have main : ∃ g1 f1 x y, EntsOkP g1 f1 ∧ takeP g f = ((g1, f1), (x, y), 0) ∧ ¬ liveP g f x y ∧ liveP g1 f1 x y ∧ (g1.length : Int) - f1.length = g.length - f.length + 1 := by
    rcases List.eq_nil_or_concat f with rfl | ⟨f0, x, rfl⟩
    · have hlt : ¬ 2000 ≤ g.length := by have := h.2.2; simp at hn; omega
      refine ⟨g ++ [0], [], g.length, 0, ⟨?_, ⟨by simp, List.nodup_nil⟩, ?_⟩, ?_, ?_, ?_, ?_⟩
      · intro z hz
        rcases List.mem_append.1 hz with hz | hz
        · exact h.1 z hz
        · simp at hz; subst hz; omega
      · simp; omega
      · simp [takeP, hlt]
      · rintro ⟨⟨_, h1⟩, _⟩; omega
      · refine ⟨⟨by omega, by simp⟩, by simp, by simp⟩
      · simp
    · rw [List.concat_eq_append] at h ⊢
      obtain ⟨h1, h2, h3⟩ := freeOk_snoc.1 h.2.1
      obtain ⟨y, hy⟩ : ∃ y, g[x.toNat]? = some y := get_some (by omega)
      refine ⟨g, f0, x, y, ⟨h.1, h1, h.2.2⟩, takeP_snoc g f0 x y hy, ?_, ⟨⟨h2.1, by omega⟩, hy, h3⟩, ?_⟩
      · rintro ⟨_, _, h4⟩; exact h4 (by simp)
      · simp; omega
  obtain ⟨g1, f1, x, y, hE, ht, n0, l1, hc⟩ := main
  have hy := hE.1 y (List.mem_of_getElem? l1.2.1)
  have hx := l1.1
  have hg : (giveG g1 x y)[x.toNat]? = some (if 1000000 ≤ y then 0 else y + 1) := by
    unfold giveG
    have := (List.getElem?_eq_some_iff.1 l1.2.1).1
    simp [this]
  have hne : (if 1000000 ≤ y then 0 else y + 1) ≠ y := by split <;> omega
  have hE2 := hE.give l1
  have hE3 : EntsOkP (giveG g1 x y) f1 := ⟨hE2.1, (freeOk_snoc.1 hE2.2.1).1, hE2.2.2⟩
  refine ⟨g1, f1, x, y, if 1000000 ≤ y then 0 else y + 1, hE, ht, n0, l1, hE2, ?_, takeP_snoc _ _ _ _ hg, hE3, ?_, ⟨⟨hx.1, by rw [giveG_len]; exact hx.2⟩, hg, l1.2.2⟩, hne, ?_, ?_⟩
  · rintro ⟨_, _, h4⟩; exact h4 (by simp)
  · rintro ⟨_, h4, _⟩; rw [hg] at h4; exact hne (Option.some.inj h4)
  · have a1 := live_lenE hE.2.1
    have a2 := live_lenE h.2.1
    omega
  · have a1 := live_lenE hE2.2.1
    have a2 := live_lenE h.2.1
    rw [giveG_len] at a1 ⊢
    simp only [List.length_append, List.length_singleton] at a1
    omega
end Go.Proofs.YtloodkhdngipbaaT
