/- Streams: what is unread. -/
import Derived.Test.YtloodkhdngipbaaKw2
namespace Go.Proofs.YtloodkhdngipbaaT
set_option linter.unusedVariables false
set_option linter.unusedSimpArgs false
open Go

/- spec.Unread -/
def c24 : TCode := (.seq (.ops [⟨(some 2), 4, .box 3 (.t 0), none, []⟩, ⟨(some 4), 6, .mv (.c (.sl true 4 [])), none, []⟩, ⟨(some 5), 7, .mv (.c (.i .i64 0)), none, []⟩, ⟨(some 6), 8, .mv (.c (.i .i64 0)), none, []⟩])
  (.seq (.ops [⟨(some 11), 13, .bslice 4 0 [(.i .i64 0), (.i .i64 0), (.f 0), (.f 0)] [], none, []⟩, ⟨(some 7), 9, .mv (.t 11), none, []⟩])
  (.seq (.seq (.ops [⟨(some 12), 14, .faddr 0 1 (.t 2), none, []⟩, ⟨(some 13), 15, .load false 1 (.t 12), none, []⟩, ⟨(some 14), 16, .call 71 [((.t 13), 0), ((.c (.i .i64 0)), 0), ((.c (.i .i64 1000000000000)), 0)], none, []⟩, ⟨(some 15), 17, .un .not (.t 14), none, []⟩])
  (.cond (.t 15)
  (.seq (.ops [⟨(some 16), 18, .mv (.t 7), none, []⟩, ⟨(some 4), 6, .mv (.t 16), none, []⟩, ⟨(some 5), 7, .mv (.c (.i .i64 0)), none, []⟩, ⟨(some 6), 8, .mv (.c (.i .i64 0)), none, []⟩])
  .ret)
  .skip))
  (.seq (.seq (.ops [⟨(some 17), 19, .mv (.t 1), none, []⟩, ⟨(some 18), 20, .bin .lss (.t 17) (.c (.i .i64 0)), none, []⟩])
  (.cond (.t 18)
  (.ops [⟨(some 1), 3, .mv (.c (.i .i64 0)), none, []⟩])
  .skip))
  (.seq (.draw [⟨(some 19), 21, .bslice 4 0 [(.i .i64 0), (.i .i64 0), (.f 0), (.f 0)] [], none, []⟩, ⟨(some 20), 22, .faddr 1 1 (.t 2), none, [0]⟩, ⟨(some 21), 23, .load false 1 (.t 20), none, [0]⟩, ⟨(some 22), 24, .app 4 32 (.t 19) (.t 21), none, []⟩, ⟨(some 23), 25, .faddr 2 1 (.t 2), none, [0, 3]⟩, ⟨(some 24), 26, .load false 1 (.t 23), none, [0, 3]⟩, ⟨(some 25), 27, .app 4 32 (.t 22) (.t 24), none, []⟩, ⟨(some 8), 10, .mv (.t 25), none, []⟩])
  (.seq (.seq (.ops [⟨(some 9), 11, .mv (.c (.i .i64 0)), none, []⟩])
  (.block 0 (.loop (.seq (.seq (.ops [⟨(some 26), 28, .mv (.t 9), none, []⟩, ⟨(some 27), 29, .mv (.t 8), none, []⟩, ⟨(some 28), 30, .len false (.t 27), none, []⟩, ⟨(some 29), 31, .bin .lss (.t 26) (.t 28), none, []⟩])
  (.cond (.t 29)
  .skip
  (.exit 0)))
  (.seq (.block 1 (.seq (.ops [⟨(some 32), 34, .faddr 0 1 (.t 2), none, []⟩, ⟨(some 33), 35, .load false 1 (.t 32), none, []⟩, ⟨(some 34), 36, .mv (.t 9), none, []⟩, ⟨(some 35), 37, .bin .add (.t 33) (.t 34), none, []⟩, ⟨(some 36), 38, .mv (.t 1), none, []⟩, ⟨(some 37), 39, .bin .geq (.t 35) (.t 36), none, []⟩])
  (.cond (.t 37)
  (.ops [⟨(some 38), 40, .mv (.t 7), none, []⟩, ⟨(some 39), 41, .mv (.t 8), none, []⟩, ⟨(some 40), 42, .mv (.t 9), none, []⟩, ⟨(some 41), 43, .iaddr 4 (.t 39) (.t 40), none, []⟩, ⟨(some 42), 44, .load true 4 (.t 41), none, []⟩, ⟨(some 43), 45, .bslice 4 1 [(.i .i64 0), (.i .i64 0), (.f 0), (.f 0)] [(0, (.t 42))], none, []⟩, ⟨(some 44), 46, .app 4 32 (.t 38) (.t 43), none, []⟩, ⟨(some 7), 9, .mv (.t 44), none, []⟩])
  .skip)))
  (.ops [⟨(some 30), 32, .mv (.t 9), none, []⟩, ⟨(some 31), 33, .bin .add (.t 30) (.c (.i .i64 1)), none, []⟩, ⟨(some 9), 11, .mv (.t 31), none, []⟩]))))))
  (.seq (.ops [⟨(some 10), 12, .mv (.c (.i .i64 0)), none, []⟩])
  (.seq (.seq (.ops [⟨(some 45), 47, .mv (.t 1), none, []⟩, ⟨(some 46), 48, .faddr 0 1 (.t 2), none, []⟩, ⟨(some 47), 49, .load false 1 (.t 46), none, []⟩, ⟨(some 48), 50, .bin .lss (.t 45) (.t 47), none, []⟩])
  (.cond (.t 48)
  (.ops [⟨(some 49), 51, .faddr 0 1 (.t 2), none, []⟩, ⟨(some 50), 52, .load false 1 (.t 49), none, []⟩, ⟨(some 51), 53, .mv (.t 1), none, []⟩, ⟨(some 52), 54, .bin .sub (.t 50) (.t 51), none, []⟩, ⟨(some 10), 12, .mv (.t 52), none, []⟩])
  .skip))
  (.seq (.draw [⟨(some 53), 55, .mv (.t 7), none, []⟩, ⟨(some 54), 56, .faddr 0 1 (.t 2), none, []⟩, ⟨(some 55), 57, .load false 1 (.t 54), none, []⟩, ⟨(some 56), 58, .mv (.t 8), none, []⟩, ⟨(some 57), 59, .len false (.t 56), none, []⟩, ⟨(some 58), 60, .bin .add (.t 55) (.t 57), none, []⟩, ⟨(some 59), 61, .mv (.t 10), none, []⟩, ⟨(some 4), 6, .mv (.t 53), none, []⟩, ⟨(some 5), 7, .mv (.t 58), none, []⟩, ⟨(some 6), 8, .mv (.t 59), none, []⟩])
  .ret)))))))))
theorem k24 : compCode Try.prog Try.f24.ntmps Try.f24.body.get! = some c24 := by kernel_rfl
theorem r24 : resTmps Try.prog Try.f24.results.toList = some [.tmp 4, .tmp 5, .tmp 6] := by kernel_rfl
/- impl.Unread -/
def c25 : TCode := (.seq (.ops [⟨(some 2), 4, .box 3 (.t 0), none, []⟩, ⟨(some 4), 6, .mv (.c (.sl true 4 [])), none, []⟩, ⟨(some 5), 7, .mv (.c (.i .i64 0)), none, []⟩, ⟨(some 6), 8, .mv (.c (.i .i64 0)), none, []⟩])
  (.seq (.seq (.ops [⟨(some 9), 11, .faddr 0 1 (.t 2), none, []⟩, ⟨(some 10), 12, .load false 1 (.t 9), none, []⟩, ⟨(some 11), 13, .call 74 [((.t 10), 0), ((.c (.i .i64 0)), 0), ((.c (.i .i64 1000000000000)), 0)], none, []⟩, ⟨(some 12), 14, .un .not (.t 11), none, []⟩])
  (.cond (.t 12)
  (.seq (.ops [⟨(some 4), 6, .mv (.c (.sl true 4 [])), none, []⟩, ⟨(some 5), 7, .mv (.c (.i .i64 0)), none, []⟩, ⟨(some 6), 8, .mv (.c (.i .i64 0)), none, []⟩])
  .ret)
  .skip))
  (.seq (.draw [⟨(some 13), 15, .faddr 1 1 (.t 2), none, []⟩, ⟨(some 14), 16, .load false 1 (.t 13), none, []⟩, ⟨(some 15), 17, .call 76 [((.t 14), 0)], none, []⟩, ⟨(some 16), 18, .faddr 2 1 (.t 2), none, [2]⟩, ⟨(some 17), 19, .load false 1 (.t 16), none, [2]⟩, ⟨(some 18), 20, .app 4 32 (.t 15) (.t 17), none, []⟩, ⟨(some 7), 9, .mv (.t 18), none, []⟩])
  (.seq (.ops [⟨(some 19), 21, .faddr 0 1 (.t 2), none, []⟩, ⟨(some 20), 22, .load false 1 (.t 19), none, []⟩, ⟨(some 21), 23, .mv (.t 7), none, []⟩, ⟨(some 22), 24, .len false (.t 21), none, []⟩, ⟨(some 23), 25, .bin .add (.t 20) (.t 22), none, []⟩, ⟨(some 8), 10, .mv (.t 23), none, []⟩])
  (.seq (.ops [⟨(some 24), 26, .mv (.t 1), none, []⟩, ⟨(some 25), 27, .maxi (.c (.i .i64 0)) (.t 24), none, []⟩, ⟨(some 1), 3, .mv (.t 25), none, []⟩])
  (.seq (.seq (.ops [⟨(some 26), 28, .mv (.t 1), none, []⟩, ⟨(some 27), 29, .mv (.t 8), none, []⟩, ⟨(some 28), 30, .bin .gtr (.t 26) (.t 27), none, []⟩])
  (.cond (.t 28)
  (.seq (.ops [⟨(some 29), 31, .mv (.t 8), none, []⟩, ⟨(some 4), 6, .mv (.c (.sl true 4 [])), none, []⟩, ⟨(some 5), 7, .mv (.t 29), none, []⟩, ⟨(some 6), 8, .mv (.c (.i .i64 0)), none, []⟩])
  .ret)
  .skip))
  (.seq (.draw [⟨(some 30), 32, .mv (.t 7), none, []⟩, ⟨(some 31), 33, .mv (.t 1), none, []⟩, ⟨(some 32), 34, .faddr 0 1 (.t 2), none, []⟩, ⟨(some 33), 35, .load false 1 (.t 32), none, []⟩, ⟨(some 34), 36, .bin .sub (.t 31) (.t 33), none, []⟩, ⟨(some 35), 37, .maxi (.c (.i .i64 0)) (.t 34), none, []⟩, ⟨(some 36), 38, .slice false 4 (.t 30) (some (.t 35)) none, none, []⟩, ⟨(some 37), 39, .call 76 [((.t 36), 0)], none, []⟩, ⟨(some 38), 40, .mv (.t 8), none, [7]⟩, ⟨(some 39), 41, .faddr 0 1 (.t 2), none, [7]⟩, ⟨(some 40), 42, .load false 1 (.t 39), none, [7]⟩, ⟨(some 41), 43, .mv (.t 1), none, [7]⟩, ⟨(some 42), 44, .bin .sub (.t 40) (.t 41), none, [7]⟩, ⟨(some 43), 45, .maxi (.c (.i .i64 0)) (.t 42), none, [7]⟩, ⟨(some 4), 6, .mv (.t 37), none, []⟩, ⟨(some 5), 7, .mv (.t 38), none, []⟩, ⟨(some 6), 8, .mv (.t 43), none, []⟩])
  .ret)))))))
theorem k25 : compCode Try.prog Try.f25.ntmps Try.f25.body.get! = some c25 := by kernel_rfl
theorem r25 : resTmps Try.prog Try.f25.results.toList = some [.tmp 4, .tmp 5, .tmp 6] := by kernel_rfl
/- laws.FnExactUnread -/
def c5 : TCode := (.seq (.ops [⟨(some 2), 4, .box 3 (.t 0), none, []⟩, ⟨(some 4), 6, .mv (.c (.b false)), none, []⟩])
  (.seq (.ops [⟨(some 5), 7, .mv (.c (.i .i64 1048576)), none, []⟩])
  (.seq (.ops [⟨(some 19), 21, .load true 3 (.t 2), none, []⟩, ⟨(some 20), 22, .mv (.t 5), none, []⟩, ⟨(some 21), 23, .call 15 [((.t 19), 0), ((.t 20), 0)], none, []⟩, ⟨(some 5), 7, .mv (.t 21), none, []⟩])
  (.seq (.seq (.ops [⟨(some 22), 24, .mv (.t 5), none, []⟩, ⟨(some 23), 25, .bin .lss (.t 22) (.c (.i .i64 0)), none, []⟩])
  (.cond (.t 23)
  (.seq (.ops [⟨(some 4), 6, .mv (.c (.b true)), none, []⟩])
  .ret)
  .skip))
  (.seq (.ops [⟨(some 25), 27, .load true 3 (.t 2), none, []⟩, ⟨(some 26), 28, .call 17 [((.t 25), 0)], none, []⟩, ⟨(some 27), 29, .mv (.t 1), none, []⟩, ⟨(some 28), 30, .call 24 [((.t 26), 0), ((.t 27), 0)], none, []⟩, ⟨(some 24), 26, .mv (.t 28), none, []⟩, ⟨(some 29), 31, .ext 0 (.t 24), none, []⟩, ⟨(some 30), 32, .ext 1 (.t 24), none, []⟩, ⟨(some 31), 33, .ext 2 (.t 24), none, []⟩, ⟨(some 6), 8, .mv (.t 29), none, []⟩, ⟨(some 7), 9, .mv (.t 30), none, []⟩, ⟨(some 8), 10, .mv (.t 31), none, []⟩])
  (.seq (.ops [⟨(some 32), 34, .load true 3 (.t 2), none, []⟩, ⟨(some 33), 35, .call 17 [((.t 32), 0)], none, []⟩, ⟨(some 9), 11, .box 3 (.c (.ag [(.i .i64 0), (.sl true 4 []), (.sl true 4 [])])), none, []⟩, ⟨none, 1006003, .store 3 (.t 9) (.t 33), none, []⟩])
  (.seq (.ops [⟨(some 35), 37, .load true 3 (.t 9), none, []⟩, ⟨(some 36), 38, .mv (.t 1), none, []⟩, ⟨(some 37), 39, .call 25 [((.t 35), 0), ((.t 36), 0)], none, []⟩, ⟨(some 34), 36, .mv (.t 37), none, []⟩, ⟨(some 38), 40, .ext 0 (.t 34), none, []⟩, ⟨(some 39), 41, .ext 1 (.t 34), none, []⟩, ⟨(some 40), 42, .ext 2 (.t 34), none, []⟩, ⟨(some 10), 12, .mv (.t 38), none, []⟩, ⟨(some 11), 13, .mv (.t 39), none, []⟩, ⟨(some 12), 14, .mv (.t 40), none, []⟩])
  (.seq (.seq (.ops [⟨(some 41), 43, .mv (.t 10), none, []⟩, ⟨(some 42), 44, .mv (.t 6), none, []⟩, ⟨(some 43), 45, .call 26 [((.t 41), 0), ((.t 42), 0)], none, []⟩, ⟨(some 44), 46, .un .not (.t 43), none, []⟩, ⟨(some 45), 47, .mv (.t 44), none, []⟩, ⟨(some 46), 48, .mv (.t 11), (some (45, false)), []⟩, ⟨(some 47), 49, .mv (.t 7), (some (45, false)), []⟩, ⟨(some 48), 50, .bin .neq (.t 46) (.t 47), (some (45, false)), []⟩, ⟨(some 49), 51, .pick (.t 45) (.c (.b true)) (.t 48), none, []⟩, ⟨(some 50), 52, .mv (.t 49), none, []⟩, ⟨(some 51), 53, .mv (.t 12), (some (50, false)), []⟩, ⟨(some 52), 54, .mv (.t 8), (some (50, false)), []⟩, ⟨(some 53), 55, .bin .neq (.t 51) (.t 52), (some (50, false)), []⟩, ⟨(some 54), 56, .pick (.t 50) (.c (.b true)) (.t 53), none, []⟩])
  (.cond (.t 54)
  (.seq (.ops [⟨(some 4), 6, .mv (.c (.b false)), none, []⟩])
  .ret)
  .skip))
  (.seq (.seq (.draw [⟨(some 55), 57, .load true 3 (.t 9), none, []⟩, ⟨(some 56), 58, .load true 3 (.t 2), none, []⟩, ⟨(some 57), 59, .call 17 [((.t 56), 0)], none, [0]⟩, ⟨(some 58), 60, .call 19 [((.t 55), 0), ((.t 57), 0)], none, []⟩, ⟨(some 59), 61, .un .not (.t 58), none, []⟩])
  (.cond (.t 59)
  (.seq (.ops [⟨(some 4), 6, .mv (.c (.b false)), none, []⟩])
  .ret)
  .skip))
  (.seq (.ops [⟨(some 13), 15, .mv (.c (.i .i64 1)), none, []⟩])
  (.seq (.ops [⟨(some 60), 62, .load true 3 (.t 9), none, []⟩, ⟨(some 61), 63, .mv (.t 13), none, []⟩, ⟨(some 62), 64, .call 22 [((.t 60), 0), ((.t 61), 0)], none, []⟩, ⟨(some 13), 15, .mv (.t 62), none, []⟩])
  (.seq (.seq (.ops [⟨(some 63), 65, .mv (.t 13), none, []⟩, ⟨(some 64), 66, .bin .lss (.t 63) (.c (.i .i64 0)), none, []⟩, ⟨(some 65), 67, .mv (.t 64), none, []⟩, ⟨(some 66), 68, .mv (.t 10), (some (65, false)), []⟩, ⟨(some 67), 69, .mv (.t 6), (some (65, false)), []⟩, ⟨(some 68), 70, .call 26 [((.t 66), 0), ((.t 67), 0)], (some (65, false)), []⟩, ⟨(some 69), 71, .un .not (.t 68), (some (65, false)), []⟩, ⟨(some 70), 72, .pick (.t 65) (.c (.b true)) (.t 69), none, []⟩, ⟨(some 71), 73, .mv (.t 70), none, []⟩, ⟨(some 72), 74, .mv (.t 11), (some (71, false)), []⟩, ⟨(some 73), 75, .mv (.t 7), (some (71, false)), []⟩, ⟨(some 74), 76, .bin .neq (.t 72) (.t 73), (some (71, false)), []⟩, ⟨(some 75), 77, .pick (.t 71) (.c (.b true)) (.t 74), none, []⟩, ⟨(some 76), 78, .mv (.t 75), none, []⟩, ⟨(some 77), 79, .mv (.t 12), (some (76, false)), []⟩, ⟨(some 78), 80, .mv (.t 8), (some (76, false)), []⟩, ⟨(some 79), 81, .bin .neq (.t 77) (.t 78), (some (76, false)), []⟩, ⟨(some 80), 82, .pick (.t 76) (.c (.b true)) (.t 79), none, []⟩])
  (.cond (.t 80)
  (.seq (.ops [⟨(some 4), 6, .mv (.c (.b false)), none, []⟩])
  .ret)
  .skip))
  (.seq (.ops [⟨(some 14), 16, .mv (.c (.i .i64 1)), none, []⟩])
  (.seq (.ops [⟨(some 81), 83, .mv (.t 10), none, []⟩, ⟨(some 82), 84, .mv (.t 14), none, []⟩, ⟨(some 83), 85, .call 27 [((.t 81), 0), ((.t 82), 0)], none, []⟩, ⟨(some 14), 16, .mv (.t 83), none, []⟩])
  (.seq (.ops [⟨(some 15), 17, .mv (.c (.i .i64 1)), none, []⟩])
  (.seq (.ops [⟨(some 84), 86, .mv (.t 10), none, []⟩, ⟨(some 85), 87, .mv (.t 15), none, []⟩, ⟨(some 86), 88, .call 28 [((.t 84), 0), ((.t 85), 0)], none, []⟩, ⟨(some 15), 17, .mv (.t 86), none, []⟩])
  (.seq (.seq (.ops [⟨(some 87), 89, .mv (.t 15), none, []⟩, ⟨(some 88), 90, .bin .lss (.t 87) (.c (.i .i64 0)), none, []⟩])
  (.cond (.t 88)
  (.seq (.ops [⟨(some 4), 6, .mv (.c (.b false)), none, []⟩])
  .ret)
  .skip))
  (.seq (.seq (.ops [⟨(some 89), 91, .mv (.t 15), none, []⟩, ⟨(some 90), 92, .mv (.t 14), none, []⟩, ⟨(some 91), 93, .bin .neq (.t 89) (.t 90), none, []⟩])
  (.cond (.t 91)
  (.seq (.ops [⟨(some 4), 6, .mv (.c (.b false)), none, []⟩])
  .ret)
  .skip))
  (.seq (.ops [⟨(some 93), 95, .load true 3 (.t 2), none, []⟩, ⟨(some 94), 96, .call 17 [((.t 93), 0)], none, []⟩, ⟨(some 95), 97, .mv (.t 1), none, []⟩, ⟨(some 96), 98, .call 25 [((.t 94), 0), ((.t 95), 0)], none, []⟩, ⟨(some 92), 94, .mv (.t 96), none, []⟩, ⟨(some 97), 99, .ext 0 (.t 92), none, []⟩, ⟨(some 98), 100, .ext 1 (.t 92), none, []⟩, ⟨(some 99), 101, .ext 2 (.t 92), none, []⟩, ⟨(some 16), 18, .mv (.t 97), none, []⟩, ⟨(some 17), 19, .mv (.t 98), none, []⟩, ⟨(some 18), 20, .mv (.t 99), none, []⟩])
  (.seq (.seq (.ops [⟨(some 100), 102, .mv (.t 16), none, []⟩, ⟨(some 101), 103, .mv (.t 6), none, []⟩, ⟨(some 102), 104, .call 26 [((.t 100), 0), ((.t 101), 0)], none, []⟩, ⟨(some 103), 105, .un .not (.t 102), none, []⟩, ⟨(some 104), 106, .mv (.t 103), none, []⟩, ⟨(some 105), 107, .mv (.t 17), (some (104, false)), []⟩, ⟨(some 106), 108, .mv (.t 7), (some (104, false)), []⟩, ⟨(some 107), 109, .bin .neq (.t 105) (.t 106), (some (104, false)), []⟩, ⟨(some 108), 110, .pick (.t 104) (.c (.b true)) (.t 107), none, []⟩, ⟨(some 109), 111, .mv (.t 108), none, []⟩, ⟨(some 110), 112, .mv (.t 18), (some (109, false)), []⟩, ⟨(some 111), 113, .mv (.t 8), (some (109, false)), []⟩, ⟨(some 112), 114, .bin .neq (.t 110) (.t 111), (some (109, false)), []⟩, ⟨(some 113), 115, .pick (.t 109) (.c (.b true)) (.t 112), none, []⟩])
  (.cond (.t 113)
  (.seq (.ops [⟨(some 4), 6, .mv (.c (.b false)), none, []⟩])
  .ret)
  .skip))
  (.seq (.ops [⟨(some 15), 17, .mv (.c (.i .i64 1)), none, []⟩])
  (.seq (.ops [⟨(some 114), 116, .mv (.t 10), none, []⟩, ⟨(some 115), 117, .mv (.t 15), none, []⟩, ⟨(some 116), 118, .call 28 [((.t 114), 0), ((.t 115), 0)], none, []⟩, ⟨(some 15), 17, .mv (.t 116), none, []⟩])
  (.seq (.seq (.ops [⟨(some 117), 119, .mv (.t 15), none, []⟩, ⟨(some 118), 120, .bin .lss (.t 117) (.c (.i .i64 0)), none, []⟩])
  (.cond (.t 118)
  (.seq (.ops [⟨(some 4), 6, .mv (.c (.b false)), none, []⟩])
  .ret)
  .skip))
  (.seq (.seq (.ops [⟨(some 119), 121, .mv (.t 15), none, []⟩, ⟨(some 120), 122, .mv (.t 14), none, []⟩, ⟨(some 121), 123, .bin .neq (.t 119) (.t 120), none, []⟩])
  (.cond (.t 121)
  (.seq (.ops [⟨(some 4), 6, .mv (.c (.b false)), none, []⟩])
  .ret)
  .skip))
  (.seq (.ops [⟨(some 4), 6, .mv (.c (.b true)), none, []⟩])
  .ret)))))))))))))))))))))))))
theorem k5 : compCode Try.prog Try.f5.ntmps Try.f5.body.get! = some c5 := by kernel_rfl
theorem r5 : resTmps Try.prog Try.f5.results.toList = some [.tmp 4] := by kernel_rfl

def unrF (u : StrP) (c : Int) : List ValP × Int × Int :=
  if 0 ≤ u.1 ∧ u.1 ≤ 1000000000000 then
    ((u.2.1 ++ u.2.2).drop (max 0 c - u.1).toNat, u.1 + (u.2.1 ++ u.2.2).length, if max 0 c < u.1 then u.1 - max 0 c else 0)
  else ([], 0, 0)
theorem unrF_len (u : StrP) (c : Int) : (unrF u c).1.length ≤ u.2.1.length + u.2.2.length := by
  unfold unrF; split
  · simp
  · simp
/-- What is gathered behind j rounds. -/
def outD (A : List ValP) (D j : Nat) : List ValP := (A.take j).drop D
theorem outD_zero (A : List ValP) (D : Nat) : outD A D 0 = [] := by simp [outD]
theorem outD_len (A : List ValP) (D j : Nat) : (outD A D j).length ≤ j := by unfold outD; rw [List.length_drop, List.length_take]; omega
theorem outD_full (A : List ValP) (D : Nat) : outD A D A.length = A.drop D := by simp [outD]
theorem drop_snoc {α : Type} {A : List α} {j D : Nat} {x : α} (hx : A[j]? = some x) : (A.take (j + 1)).drop D = if D ≤ j then (A.take j).drop D ++ [x] else (A.take j).drop D := by
  have hj := (List.getElem?_eq_some_iff.1 hx).1
  rw [take_snoc hx]
  split
  · rename_i h
    rw [List.drop_append_of_le_length (by rw [List.length_take]; omega)]
  · rename_i h
    rw [List.drop_eq_nil_of_le (by rw [List.length_append, List.length_take]; simp; omega), List.drop_eq_nil_of_le (by rw [List.length_take]; omega)]
theorem outD_succ {A : List ValP} {D j : Nat} {x : ValP} (hx : A[j]? = some x) : outD A D (j + 1) = if D ≤ j then outD A D j ++ [x] else outD A D j := drop_snoc hx
theorem w24 (u : StrP) (c : Int) (hb : strB (2^39) u) : Contract Try.prog false 24 [.ro, .ro] [strR u, .i .i64 c] [.sl true 4 ((unrF u c).1.map vT), .i .i64 (unrF u c).2.1, .i .i64 (unrF u c).2.2] [] := by
  refine mk_contract [] Try.func24 (c := Try.f24.body.get!) (by kernel_rfl) k24 r24 (of_decide_eq_true rfl) fun _ => ?_
  obtain ⟨b1, b2⟩ := hb
  unfold c24; unfold strR unrF; simp
  by_cases h1 : 0 ≤ u.1 ∧ u.1 ≤ 1000000000000
  · refine callW_ms [.ro, .ro, .ro] ?_
    simp
    refine callX_of ((w71 _ _ _).t h1) (by simp) ?_
    simp
    rw [if_pos h1]
    simp only
    obtain ⟨A, hA⟩ : ∃ A, A = u.2.1 ++ u.2.2 := ⟨_, rfl⟩
    have hAl : A.length = u.2.1.length + u.2.2.length := by rw [hA]; simp
    rw [← hA]
    refine ⟨fun hc => ?_, fun hc => ?_⟩
    · have hC : max 0 c = 0 := by omega
      rw [hC]
      refine ⟨by omega, by omega, ?_⟩
      refine twp_forR A.length (fun j s => s.t 1 = .i .i64 0 ∧ s.t 2 = .pt [(4, 0)] 0 0 ∧ s.t 7 = .rf [(46, 0)] 0 (outD A (0 - u.1).toNat j).length ∧ s.t 8 = .rf [(27, 0)] 0 A.length ∧ s.t 9 = .i .i64 j ∧ s.H = lk [(1, []), (4, [.po true [.i .i64 u.1, .sl false 4 (u.2.1.map vT), .sl false 4 (u.2.2.map vT)]]), (46, [.sl true 4 ((outD A (0 - u.1).toNat j).map vT)]), (27, [.sl true 4 (A.map vT)])]) [45, 21, 24] [(13, 46)] (by simp) (by simp) ?_ ?_
      · simp [hA, outD_zero]
      · rintro j s hj ⟨q1, q2, q7, q8, q9, qH⟩
        rw [nf_of qH]
        simp [q1, q2, q7, q8, q9]
        refine ⟨fun hlt => ?_, fun hge => ?_⟩
        · have hw : IntKind.i64.wrap (j + 1) = j + 1 := wrap_id (by omega) (by omega)
          obtain ⟨x, hx⟩ := get_some hlt
          have hw2 : IntKind.i64.wrap (u.1 + j) = u.1 + j := wrap_id (by omega) (by omega)
          have hds := outD_succ (D := (0 - u.1).toNat) hx
          have hl := outD_len A (0 - u.1).toNat j
          try simp only [Int.zero_sub] at hds hl q7 qH
          simp [hx, hw, hw2, q1, q2, q7, q8, q9]
          refine ⟨fun h3 => ?_, fun h3 => ?_⟩
          · rw [if_pos (by omega)] at hds
            rw [hds]
            simp
            omega
          · rw [if_neg (by omega)] at hds
            rw [hds]
            simp
            omega
        · obtain rfl : j = A.length := by omega
          have hw2 : IntKind.i64.wrap (u.1 + A.length) = u.1 + A.length := wrap_id (by omega) (by omega)
          simp only [outD_full] at q7 qH
          simp [q1, q2, q7, q8, q9, hw2]
          have hd : List.map vT (outD A (0 - u.1).toNat A.length) = List.drop (0 - u.1).toNat (List.map vT A) := by rw [outD_full, List.map_drop]
          try simp only [Int.zero_sub] at hd
          refine ⟨fun h3 => ?_, fun h3 => ?_⟩
          · have hw3 : IntKind.i64.wrap (u.1 - 0) = u.1 - 0 := wrap_id (by omega) (by omega)
            try simp only [Int.sub_zero] at hw3
            refine ⟨hd, by omega, ?_⟩
            rw [hw3]
            split <;> omega
          · exact ⟨hd, by omega, fun h4 => by omega⟩

    · have hC : max 0 c = c := by omega
      rw [hC]
      refine ⟨by omega, by omega, ?_⟩
      refine twp_forR A.length (fun j s => s.t 1 = .i .i64 c ∧ s.t 2 = .pt [(4, 0)] 0 0 ∧ s.t 7 = .rf [(46, 0)] 0 (outD A (c - u.1).toNat j).length ∧ s.t 8 = .rf [(27, 0)] 0 A.length ∧ s.t 9 = .i .i64 j ∧ s.H = lk [(1, []), (4, [.po true [.i .i64 u.1, .sl false 4 (u.2.1.map vT), .sl false 4 (u.2.2.map vT)]]), (46, [.sl true 4 ((outD A (c - u.1).toNat j).map vT)]), (27, [.sl true 4 (A.map vT)])]) [45, 21, 24] [(13, 46)] (by simp) (by simp) ?_ ?_
      · simp [hA, outD_zero]
      · rintro j s hj ⟨q1, q2, q7, q8, q9, qH⟩
        rw [nf_of qH]
        simp [q1, q2, q7, q8, q9]
        refine ⟨fun hlt => ?_, fun hge => ?_⟩
        · have hw : IntKind.i64.wrap (j + 1) = j + 1 := wrap_id (by omega) (by omega)
          obtain ⟨x, hx⟩ := get_some hlt
          have hw2 : IntKind.i64.wrap (u.1 + j) = u.1 + j := wrap_id (by omega) (by omega)
          have hds := outD_succ (D := (c - u.1).toNat) hx
          have hl := outD_len A (c - u.1).toNat j
          try simp only [Int.zero_sub] at hds hl q7 qH
          simp [hx, hw, hw2, q1, q2, q7, q8, q9]
          refine ⟨fun h3 => ?_, fun h3 => ?_⟩
          · rw [if_pos (by omega)] at hds
            rw [hds]
            simp
            omega
          · rw [if_neg (by omega)] at hds
            rw [hds]
            simp
            omega
        · obtain rfl : j = A.length := by omega
          have hw2 : IntKind.i64.wrap (u.1 + A.length) = u.1 + A.length := wrap_id (by omega) (by omega)
          simp only [outD_full] at q7 qH
          simp [q1, q2, q7, q8, q9, hw2]
          have hd : List.map vT (outD A (c - u.1).toNat A.length) = List.drop (c - u.1).toNat (List.map vT A) := by rw [outD_full, List.map_drop]
          try simp only [Int.zero_sub] at hd
          refine ⟨fun h3 => ?_, fun h3 => ?_⟩
          · have hw3 : IntKind.i64.wrap (u.1 - c) = u.1 - c := wrap_id (by omega) (by omega)
            try simp only [Int.sub_zero] at hw3
            refine ⟨hd, by omega, ?_⟩
            rw [hw3]
            split <;> omega
          · exact ⟨hd, by omega, fun h4 => by omega⟩

  · refine callW_ms [.ro, .ro, .ro] ?_
    simp
    refine callX_of ((w71 _ _ _).f h1) (by simp) ?_
    simp
    simp [h1]
theorem w25 (u : StrP) (c : Int) (hb : strB (2^39) u) : Contract Try.prog false 25 [.ro, .ro] [strR u, .i .i64 c] [.sl true 4 ((unrF u c).1.map vT), .i .i64 (unrF u c).2.1, .i .i64 (unrF u c).2.2] [] := by
  refine mk_contract [] Try.func25 (c := Try.f25.body.get!) (by kernel_rfl) k25 r25 (of_decide_eq_true rfl) fun _ => ?_
  obtain ⟨b1, b2⟩ := hb
  unfold c25; unfold strR unrF; simp
  by_cases h1 : 0 ≤ u.1 ∧ u.1 ≤ 1000000000000
  · refine callW_ms [.ro, .ro, .ro] ?_
    simp
    refine callX_of ((w74 _ _ _).t h1) (by simp) ?_
    simp
    rw [if_pos h1]
    simp only
    refine callW_ms [.ro] ?_
    simp
    refine callX_of (w76 u.2.1 (by omega)) (by simp) ?_
    simp
    have hC0 : 0 ≤ max 0 c := Int.le_max_left 0 c
    generalize max 0 c = C at *
    have hw1 : IntKind.i64.wrap (u.1 + (u.2.1.length + u.2.2.length)) = u.1 + (u.2.1.length + u.2.2.length) := wrap_id (by omega) (by omega)
    rw [hw1]
    refine ⟨by omega, fun h3 => ⟨by omega, rfl, fun h4 => by omega⟩, fun h3 => ?_⟩
    obtain ⟨D, hD⟩ : ∃ D, D = (C - u.1).toNat := ⟨_, rfl⟩
    have hw2 : max 0 (IntKind.i64.wrap (C - u.1)) = (D : Int) := by rw [wrap_id (by omega) (by omega)]; omega
    rw [hw2]
    refine ⟨by omega, by omega, ?_⟩
    have hw4 : ((u.2.1.length : Int) + u.2.2.length).toNat - D = u.2.1.length + u.2.2.length - D := by omega
    rw [Int.toNat_natCast, hw4]
    rw [← hD]
    obtain ⟨A, hA⟩ : ∃ A, A = u.2.1 ++ u.2.2 := ⟨_, rfl⟩
    have hAl : A.length = u.2.1.length + u.2.2.length := by rw [hA]; simp
    have hAm : List.map vT u.2.1 ++ List.map vT u.2.2 = List.map vT A := by rw [hA]; simp
    rw [hAm]
    have hdt : ((A.map vT).drop (offE D (u.2.1.length + u.2.2.length - D))).take (u.2.1.length + u.2.2.length - D) = (A.drop D).map vT := by
      unfold offE
      rw [List.map_drop]
      by_cases h0 : u.2.1.length + u.2.2.length - D = 0
      · have h5 : A.length ≤ D := by omega
        rw [h0]; simp [h5]
      · rw [if_neg h0, List.take_of_length_le (by rw [List.length_drop, List.length_map]; omega)]
    refine callW_ms [.ro] ?_
    simp [hdt]
    rw [show fzLL (List.drop D (List.map vT A)) = (A.drop D).map vT by rw [← List.map_drop, fzLL_vT]]
    refine callX_of (w76 (A.drop D) (by rw [List.length_drop]; omega)) (by simp) ?_
    simp [hw1]
    refine ⟨?_, by rw [← List.map_drop]; exact noROLL_vT _⟩
    rw [wrap_id (n := u.1 - C) (by omega) (by omega)]
    split <;> omega
  · refine callW_ms [.ro, .ro, .ro] ?_
    simp
    refine callX_of ((w74 _ _ _).f h1) (by simp) ?_
    simp
    simp [h1]
theorem w5 (u : StrP) (c : Int) (hb : strB 9223372036854775807 u) : Contract Try.prog false 5 [.ro, .ro] [strR u, .i .i64 c] [.b true] [] := by
  refine mk_contract [] Try.func5 (c := Try.f5.body.get!) (by kernel_rfl) k5 r5 (of_decide_eq_true rfl) fun _ => ?_
  unfold c5; unfold strR; simp
  refine callW_ms [.ro, .ro] ?_
  simp [strR]
  refine callX_of (w15 u _ hb (by omega) (by omega)) (by simp) ?_
  simp
  intro h
  obtain ⟨-, -, hk⟩ := szStr_ok (k := 2^20) (by omega) (by omega) (by omega : ¬ szStrF u 1048576 < 0)
  have hk2 : strB (2^40) u := by unfold strB at hk ⊢; omega
  have hk3 : strB (2^30) u := by unfold strB at hk ⊢; omega
  have hk4 : strB (2^39) u := by unfold strB at hk ⊢; omega
  have hS := w24 u c hk4
  have hI := w25 u c hk4
  have hl := unrF_len u c
  generalize unrF u c = g at hS hI hl
  obtain ⟨g, e, m⟩ := g
  simp only at hS hI hl
  obtain ⟨k1, k2⟩ := hk
  refine callW_ms [.ro] ?_
  simp [strR]
  refine callX_of (w17 u hk2) (by simp) ?_
  simp [strO]
  refine callW_ms [.ro, .ro] ?_
  simp
  refine callX_of hS (by simp [strR]) ?_
  simp
  refine callW_ms [.ro] ?_
  simp [strR]
  refine callX_of (w17 u hk2) (by simp) ?_
  simp [strO]
  refine callW_ms [.ro, .ro] ?_
  simp
  refine callX_of hI (by simp [strR]) ?_
  simp
  refine callW_ms [.ro, .ro] ?_
  simp
  refine callX_of (w26 g (by omega)) (by simp) ?_
  simp
  refine callW_ms [.ro] ?_
  simp [strR]
  refine callX_of (w17 u hk2) (by simp) ?_
  simp [strO]
  refine callW_ms [.ro, .ro] ?_
  simp [strR]
  refine callX_of (w19 u hk2) (by simp) ?_
  simp
  have hk : ¬ (1 + 4 * (u.2.1.length : Int) + 4 * u.2.2.length < 0) := by omega
  refine callW_ms [.own, .ro] ?_
  simp
  refine callX_of (w22 u 1 hk3 (by omega) (by omega)) (by simp) ?_
  simp [strO, hk]
  refine callW_ms [.ro, .ro] ?_
  simp
  refine callX_of (w26 g (by omega)) (by simp) ?_
  simp
  refine callW_ms [.own, .ro] ?_
  simp
  refine callX_of (w27 g 1 (by omega) (by omega) (by omega)) (by simp) ?_
  simp
  refine callW_ms [.ro, .ro] ?_
  simp
  refine callX_of (w28 g.length 1 (by omega) (by omega) (by omega)) (by simp) ?_
  simp
  refine ⟨by omega, fun _ => ?_⟩
  refine callW_ms [.ro] ?_
  simp [strR]
  refine callX_of (w17 u hk2) (by simp) ?_
  simp [strO]
  refine callW_ms [.ro, .ro] ?_
  simp
  refine callX_of hI (by simp [strR]) ?_
  simp
  refine callW_ms [.ro, .ro] ?_
  simp
  refine callX_of (w26 g (by omega)) (by simp) ?_
  simp
  refine callW_ms [.ro, .ro] ?_
  simp
  refine callX_of (w28 g.length 1 (by omega) (by omega) (by omega)) (by simp) ?_
  simp
  omega
end Go.Proofs.YtloodkhdngipbaaT
