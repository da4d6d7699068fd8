/- EntAhead. -/
import Derived.Test.YtlddgmpaaobpoaaKf
import Derived.Test.YtlddgmpaaobpoaaKj
namespace Go.Proofs.YtlddgmpaaobpoaaT
set_option linter.unusedVariables false
set_option linter.unusedSimpArgs false
open Go

/- spec.EntAhead -/
def c34 : TCode := (.seq (.ops [⟨(some 2), 4, .box 2 (.t 0), none, []⟩, ⟨(some 4), 6, .mv (.c (.sl true 2 [])), none, []⟩, ⟨(some 5), 7, .mv (.c (.b false)), none, []⟩])
  (.seq (.seq (.ops [⟨(some 11), 13, .load true 2 (.t 2), none, []⟩, ⟨(some 12), 14, .call 20 [((.t 11), 0)], none, []⟩, ⟨(some 13), 15, .un .not (.t 12), none, []⟩, ⟨(some 14), 16, .mv (.t 13), none, []⟩, ⟨(some 15), 17, .mv (.t 1), (some (14, false)), []⟩, ⟨(some 16), 18, .bin .lss (.t 15) (.c (.i .i64 0)), (some (14, false)), []⟩, ⟨(some 17), 19, .pick (.t 14) (.c (.b true)) (.t 16), none, []⟩, ⟨(some 18), 20, .mv (.t 17), none, []⟩, ⟨(some 19), 21, .mv (.t 1), (some (18, false)), []⟩, ⟨(some 20), 22, .bin .gtr (.t 19) (.c (.i .i64 2000)), (some (18, false)), []⟩, ⟨(some 21), 23, .pick (.t 18) (.c (.b true)) (.t 20), none, []⟩])
  (.cond (.t 21)
  (.seq (.ops [⟨(some 4), 6, .mv (.c (.sl true 2 [])), none, []⟩, ⟨(some 5), 7, .mv (.c (.b false)), none, []⟩])
  .ret)
  .skip))
  (.seq (.ops [⟨(some 22), 24, .load true 2 (.t 2), none, []⟩, ⟨(some 23), 25, .call 61 [((.t 22), 0)], none, []⟩, ⟨none, 1003002, .store 2 (.t 2) (.t 23), none, []⟩])
  (.seq (.ops [⟨(some 24), 26, .bslice 2 0 [(.i .i64 0), (.i .i64 0)] [], none, []⟩, ⟨(some 6), 8, .mv (.t 24), none, []⟩])
  (.seq (.seq (.ops [⟨(some 7), 9, .mv (.c (.i .i64 0)), none, []⟩])
  (.block 0 (.loop (.seq (.seq (.ops [⟨(some 25), 27, .mv (.t 7), none, []⟩, ⟨(some 26), 28, .mv (.t 1), none, []⟩, ⟨(some 27), 29, .bin .lss (.t 25) (.t 26), none, []⟩])
  (.cond (.t 27)
  .skip
  (.exit 0)))
  (.seq (.block 1 (.seq (.ops [⟨(some 31), 33, .load true 2 (.t 2), none, []⟩, ⟨(some 32), 34, .call 62 [((.t 31), 0)], none, []⟩, ⟨(some 30), 32, .mv (.t 32), none, []⟩, ⟨(some 33), 35, .ext 0 (.t 30), none, []⟩, ⟨(some 34), 36, .ext 1 (.t 30), none, []⟩, ⟨(some 35), 37, .ext 2 (.t 30), none, []⟩, ⟨(some 8), 10, .box 2 (.c (.ag [(.sl true 1 []), (.sl true 1 [])])), none, []⟩, ⟨(some 9), 11, .box 2 (.c (.ag [(.i .i64 0), (.i .i64 0)])), none, []⟩, ⟨none, 1008008, .store 2 (.t 8) (.t 33), none, []⟩, ⟨none, 1008009, .store 2 (.t 9) (.t 34), none, []⟩, ⟨(some 10), 12, .mv (.t 35), none, []⟩])
  (.seq (.seq (.ops [⟨(some 36), 38, .mv (.t 10), none, []⟩, ⟨(some 37), 39, .bin .neq (.t 36) (.c (.i .i64 0)), none, []⟩])
  (.cond (.t 37)
  (.seq (.ops [⟨(some 4), 6, .mv (.c (.sl true 2 [])), none, []⟩, ⟨(some 5), 7, .mv (.c (.b false)), none, []⟩])
  .ret)
  .skip))
  (.seq (.ops [⟨(some 38), 40, .load true 2 (.t 8), none, []⟩, ⟨none, 1011001, .store 2 (.t 2) (.t 38), none, []⟩])
  (.ops [⟨(some 39), 41, .mv (.t 6), none, []⟩, ⟨(some 40), 42, .load true 2 (.t 9), none, []⟩, ⟨(some 41), 43, .bslice 2 1 [(.i .i64 0), (.i .i64 0)] [(0, (.t 40))], none, []⟩, ⟨(some 42), 44, .app 2 16 (.t 39) (.t 41), none, []⟩, ⟨(some 6), 8, .mv (.t 42), none, []⟩])))))
  (.ops [⟨(some 28), 30, .mv (.t 7), none, []⟩, ⟨(some 29), 31, .bin .add (.t 28) (.c (.i .i64 1)), none, []⟩, ⟨(some 7), 9, .mv (.t 29), none, []⟩]))))))
  (.seq (.ops [⟨(some 43), 45, .mv (.t 6), none, []⟩, ⟨(some 4), 6, .mv (.t 43), none, []⟩, ⟨(some 5), 7, .mv (.c (.b true)), none, []⟩])
  .ret))))))
theorem k34 : compCode Try.prog Try.f34.ntmps Try.f34.body.get! = some c34 := by kernel_rfl
theorem r34 : resTmps Try.prog Try.f34.results.toList = some [.tmp 4, .tmp 5] := by kernel_rfl
/- impl.EntAhead -/
def c35 : TCode := (.seq (.ops [⟨(some 2), 4, .box 2 (.t 0), none, []⟩, ⟨(some 4), 6, .mv (.c (.sl true 2 [])), none, []⟩, ⟨(some 5), 7, .mv (.c (.b false)), none, []⟩])
  (.seq (.seq (.ops [⟨(some 10), 12, .load true 2 (.t 2), none, []⟩, ⟨(some 11), 13, .call 22 [((.t 10), 0)], none, []⟩, ⟨(some 12), 14, .un .not (.t 11), none, []⟩, ⟨(some 13), 15, .mv (.t 12), none, []⟩, ⟨(some 14), 16, .mv (.t 1), (some (13, false)), []⟩, ⟨(some 15), 17, .bin .lss (.t 14) (.c (.i .i64 0)), (some (13, false)), []⟩, ⟨(some 16), 18, .pick (.t 13) (.c (.b true)) (.t 15), none, []⟩, ⟨(some 17), 19, .mv (.t 16), none, []⟩, ⟨(some 18), 20, .mv (.t 1), (some (17, false)), []⟩, ⟨(some 19), 21, .faddr 1 1 (.t 2), (some (17, false)), []⟩, ⟨(some 20), 22, .load false 1 (.t 19), (some (17, false)), []⟩, ⟨(some 21), 23, .len false (.t 20), (some (17, false)), []⟩, ⟨(some 22), 24, .bin .add (.t 21) (.c (.i .i64 2000)), (some (17, false)), []⟩, ⟨(some 23), 25, .faddr 0 1 (.t 2), (some (17, false)), []⟩, ⟨(some 24), 26, .load false 1 (.t 23), (some (17, false)), []⟩, ⟨(some 25), 27, .len false (.t 24), (some (17, false)), []⟩, ⟨(some 26), 28, .bin .sub (.t 22) (.t 25), (some (17, false)), []⟩, ⟨(some 27), 29, .bin .gtr (.t 18) (.t 26), (some (17, false)), []⟩, ⟨(some 28), 30, .pick (.t 17) (.c (.b true)) (.t 27), none, []⟩])
  (.cond (.t 28)
  (.seq (.ops [⟨(some 4), 6, .mv (.c (.sl true 2 [])), none, []⟩, ⟨(some 5), 7, .mv (.c (.b false)), none, []⟩])
  .ret)
  .skip))
  (.seq (.ops [⟨(some 29), 31, .load true 2 (.t 2), none, []⟩, ⟨(some 30), 32, .call 63 [((.t 29), 0)], none, []⟩, ⟨(some 6), 8, .box 2 (.c (.ag [(.sl true 1 []), (.sl true 1 [])])), none, []⟩, ⟨none, 1003003, .store 2 (.t 6) (.t 30), none, []⟩])
  (.seq (.ops [⟨(some 31), 33, .bslice 2 0 [(.i .i64 0), (.i .i64 0)] [], none, []⟩, ⟨(some 7), 9, .mv (.t 31), none, []⟩])
  (.seq (.seq (.ops [⟨(some 32), 34, .mv (.t 1), none, []⟩, ⟨(some 33), 35, .mv (.c (.i .i64 0)), none, []⟩])
  (.block 0 (.loop (.seq (.ops [⟨(some 34), 36, .bin .lss (.t 33) (.t 32), none, []⟩])
  (.seq (.cond (.t 34)
  .skip
  (.exit 0))
  (.seq (.block 1 (.seq (.ops [⟨(some 36), 38, .call 64 [((.t 6), 0)], none, []⟩, ⟨(some 35), 37, .mv (.t 36), none, []⟩, ⟨(some 37), 39, .ext 0 (.t 35), none, []⟩, ⟨(some 38), 40, .ext 1 (.t 35), none, []⟩, ⟨(some 8), 10, .box 2 (.c (.ag [(.i .i64 0), (.i .i64 0)])), none, []⟩, ⟨none, 1007005, .store 2 (.t 8) (.t 37), none, []⟩, ⟨(some 9), 11, .mv (.t 38), none, []⟩])
  (.ops [⟨(some 39), 41, .mv (.t 7), none, []⟩, ⟨(some 40), 42, .load true 2 (.t 8), none, []⟩, ⟨(some 41), 43, .bslice 2 1 [(.i .i64 0), (.i .i64 0)] [(0, (.t 40))], none, []⟩, ⟨(some 42), 44, .app 2 16 (.t 39) (.t 41), none, []⟩, ⟨(some 7), 9, .mv (.t 42), none, []⟩])))
  (.ops [⟨(some 43), 45, .bin .add (.t 33) (.c (.i .i64 1)), none, []⟩, ⟨(some 33), 35, .mv (.t 43), none, []⟩])))))))
  (.seq (.ops [⟨(some 44), 46, .mv (.t 7), none, []⟩, ⟨(some 4), 6, .mv (.t 44), none, []⟩, ⟨(some 5), 7, .mv (.c (.b true)), none, []⟩])
  .ret))))))
theorem k35 : compCode Try.prog Try.f35.ntmps Try.f35.body.get! = some c35 := by kernel_rfl
theorem r35 : resTmps Try.prog Try.f35.results.toList = some [.tmp 4, .tmp 5] := by kernel_rfl
/- laws.FnExactEntAhead -/
def c10 : TCode := (.seq (.ops [⟨(some 2), 4, .box 2 (.t 0), none, []⟩, ⟨(some 4), 6, .mv (.c (.b false)), none, []⟩])
  (.seq (.ops [⟨(some 5), 7, .mv (.c (.i .i64 1048576)), none, []⟩])
  (.seq (.ops [⟨(some 16), 18, .load true 2 (.t 2), none, []⟩, ⟨(some 17), 19, .mv (.t 5), none, []⟩, ⟨(some 18), 20, .call 19 [((.t 16), 0), ((.t 17), 0)], none, []⟩, ⟨(some 5), 7, .mv (.t 18), none, []⟩])
  (.seq (.seq (.ops [⟨(some 19), 21, .mv (.t 5), none, []⟩, ⟨(some 20), 22, .bin .lss (.t 19) (.c (.i .i64 0)), none, []⟩])
  (.cond (.t 20)
  (.seq (.ops [⟨(some 4), 6, .mv (.c (.b true)), none, []⟩])
  .ret)
  .skip))
  (.seq (.ops [⟨(some 22), 24, .load true 2 (.t 2), none, []⟩, ⟨(some 23), 25, .call 21 [((.t 22), 0)], none, []⟩, ⟨(some 24), 26, .mv (.t 1), none, []⟩, ⟨(some 25), 27, .call 34 [((.t 23), 0), ((.t 24), 0)], none, []⟩, ⟨(some 21), 23, .mv (.t 25), none, []⟩, ⟨(some 26), 28, .ext 0 (.t 21), none, []⟩, ⟨(some 27), 29, .ext 1 (.t 21), none, []⟩, ⟨(some 6), 8, .mv (.t 26), none, []⟩, ⟨(some 7), 9, .mv (.t 27), none, []⟩])
  (.seq (.ops [⟨(some 28), 30, .load true 2 (.t 2), none, []⟩, ⟨(some 29), 31, .call 21 [((.t 28), 0)], none, []⟩, ⟨(some 8), 10, .box 2 (.c (.ag [(.sl true 1 []), (.sl true 1 [])])), none, []⟩, ⟨none, 1006003, .store 2 (.t 8) (.t 29), none, []⟩])
  (.seq (.ops [⟨(some 31), 33, .load true 2 (.t 8), none, []⟩, ⟨(some 32), 34, .mv (.t 1), none, []⟩, ⟨(some 33), 35, .call 35 [((.t 31), 0), ((.t 32), 0)], none, []⟩, ⟨(some 30), 32, .mv (.t 33), none, []⟩, ⟨(some 34), 36, .ext 0 (.t 30), none, []⟩, ⟨(some 35), 37, .ext 1 (.t 30), none, []⟩, ⟨(some 9), 11, .mv (.t 34), none, []⟩, ⟨(some 10), 12, .mv (.t 35), none, []⟩])
  (.seq (.seq (.ops [⟨(some 36), 38, .mv (.t 9), none, []⟩, ⟨(some 37), 39, .mv (.t 6), none, []⟩, ⟨(some 38), 40, .call 36 [((.t 36), 0), ((.t 37), 0)], none, []⟩, ⟨(some 39), 41, .un .not (.t 38), none, []⟩, ⟨(some 40), 42, .mv (.t 39), none, []⟩, ⟨(some 41), 43, .mv (.t 10), (some (40, false)), []⟩, ⟨(some 42), 44, .mv (.t 7), (some (40, false)), []⟩, ⟨(some 43), 45, .eqs true false [.b] (.t 41) (.t 42), (some (40, false)), []⟩, ⟨(some 44), 46, .pick (.t 40) (.c (.b true)) (.t 43), none, []⟩])
  (.cond (.t 44)
  (.seq (.ops [⟨(some 4), 6, .mv (.c (.b false)), none, []⟩])
  .ret)
  .skip))
  (.seq (.seq (.draw [⟨(some 45), 47, .load true 2 (.t 8), none, []⟩, ⟨(some 46), 48, .load true 2 (.t 2), none, []⟩, ⟨(some 47), 49, .call 21 [((.t 46), 0)], none, [0]⟩, ⟨(some 48), 50, .call 23 [((.t 45), 0), ((.t 47), 0)], none, []⟩, ⟨(some 49), 51, .un .not (.t 48), none, []⟩])
  (.cond (.t 49)
  (.seq (.ops [⟨(some 4), 6, .mv (.c (.b false)), none, []⟩])
  .ret)
  .skip))
  (.seq (.ops [⟨(some 11), 13, .mv (.c (.i .i64 1)), none, []⟩])
  (.seq (.ops [⟨(some 50), 52, .load true 2 (.t 8), none, []⟩, ⟨(some 51), 53, .mv (.t 11), none, []⟩, ⟨(some 52), 54, .call 30 [((.t 50), 0), ((.t 51), 0)], none, []⟩, ⟨(some 11), 13, .mv (.t 52), none, []⟩])
  (.seq (.seq (.ops [⟨(some 53), 55, .mv (.t 11), none, []⟩, ⟨(some 54), 56, .bin .lss (.t 53) (.c (.i .i64 0)), none, []⟩, ⟨(some 55), 57, .mv (.t 54), none, []⟩, ⟨(some 56), 58, .mv (.t 9), (some (55, false)), []⟩, ⟨(some 57), 59, .mv (.t 6), (some (55, false)), []⟩, ⟨(some 58), 60, .call 36 [((.t 56), 0), ((.t 57), 0)], (some (55, false)), []⟩, ⟨(some 59), 61, .un .not (.t 58), (some (55, false)), []⟩, ⟨(some 60), 62, .pick (.t 55) (.c (.b true)) (.t 59), none, []⟩, ⟨(some 61), 63, .mv (.t 60), none, []⟩, ⟨(some 62), 64, .mv (.t 10), (some (61, false)), []⟩, ⟨(some 63), 65, .mv (.t 7), (some (61, false)), []⟩, ⟨(some 64), 66, .eqs true false [.b] (.t 62) (.t 63), (some (61, false)), []⟩, ⟨(some 65), 67, .pick (.t 61) (.c (.b true)) (.t 64), none, []⟩])
  (.cond (.t 65)
  (.seq (.ops [⟨(some 4), 6, .mv (.c (.b false)), none, []⟩])
  .ret)
  .skip))
  (.seq (.ops [⟨(some 12), 14, .mv (.c (.i .i64 1)), none, []⟩])
  (.seq (.ops [⟨(some 66), 68, .mv (.t 9), none, []⟩, ⟨(some 67), 69, .mv (.t 12), none, []⟩, ⟨(some 68), 70, .call 37 [((.t 66), 0), ((.t 67), 0)], none, []⟩, ⟨(some 12), 14, .mv (.t 68), none, []⟩])
  (.seq (.ops [⟨(some 13), 15, .mv (.c (.i .i64 1)), none, []⟩])
  (.seq (.ops [⟨(some 69), 71, .mv (.t 9), none, []⟩, ⟨(some 70), 72, .mv (.t 13), none, []⟩, ⟨(some 71), 73, .call 38 [((.t 69), 0), ((.t 70), 0)], none, []⟩, ⟨(some 13), 15, .mv (.t 71), none, []⟩])
  (.seq (.seq (.ops [⟨(some 72), 74, .mv (.t 13), none, []⟩, ⟨(some 73), 75, .bin .lss (.t 72) (.c (.i .i64 0)), none, []⟩])
  (.cond (.t 73)
  (.seq (.ops [⟨(some 4), 6, .mv (.c (.b false)), none, []⟩])
  .ret)
  .skip))
  (.seq (.seq (.ops [⟨(some 74), 76, .mv (.t 13), none, []⟩, ⟨(some 75), 77, .mv (.t 12), none, []⟩, ⟨(some 76), 78, .bin .neq (.t 74) (.t 75), none, []⟩])
  (.cond (.t 76)
  (.seq (.ops [⟨(some 4), 6, .mv (.c (.b false)), none, []⟩])
  .ret)
  .skip))
  (.seq (.ops [⟨(some 78), 80, .load true 2 (.t 2), none, []⟩, ⟨(some 79), 81, .call 21 [((.t 78), 0)], none, []⟩, ⟨(some 80), 82, .mv (.t 1), none, []⟩, ⟨(some 81), 83, .call 35 [((.t 79), 0), ((.t 80), 0)], none, []⟩, ⟨(some 77), 79, .mv (.t 81), none, []⟩, ⟨(some 82), 84, .ext 0 (.t 77), none, []⟩, ⟨(some 83), 85, .ext 1 (.t 77), none, []⟩, ⟨(some 14), 16, .mv (.t 82), none, []⟩, ⟨(some 15), 17, .mv (.t 83), none, []⟩])
  (.seq (.seq (.ops [⟨(some 84), 86, .mv (.t 14), none, []⟩, ⟨(some 85), 87, .mv (.t 6), none, []⟩, ⟨(some 86), 88, .call 36 [((.t 84), 0), ((.t 85), 0)], none, []⟩, ⟨(some 87), 89, .un .not (.t 86), none, []⟩, ⟨(some 88), 90, .mv (.t 87), none, []⟩, ⟨(some 89), 91, .mv (.t 15), (some (88, false)), []⟩, ⟨(some 90), 92, .mv (.t 7), (some (88, false)), []⟩, ⟨(some 91), 93, .eqs true false [.b] (.t 89) (.t 90), (some (88, false)), []⟩, ⟨(some 92), 94, .pick (.t 88) (.c (.b true)) (.t 91), none, []⟩])
  (.cond (.t 92)
  (.seq (.ops [⟨(some 4), 6, .mv (.c (.b false)), none, []⟩])
  .ret)
  .skip))
  (.seq (.ops [⟨(some 13), 15, .mv (.c (.i .i64 1)), none, []⟩])
  (.seq (.ops [⟨(some 93), 95, .mv (.t 9), none, []⟩, ⟨(some 94), 96, .mv (.t 13), none, []⟩, ⟨(some 95), 97, .call 38 [((.t 93), 0), ((.t 94), 0)], none, []⟩, ⟨(some 13), 15, .mv (.t 95), none, []⟩])
  (.seq (.seq (.ops [⟨(some 96), 98, .mv (.t 13), none, []⟩, ⟨(some 97), 99, .bin .lss (.t 96) (.c (.i .i64 0)), none, []⟩])
  (.cond (.t 97)
  (.seq (.ops [⟨(some 4), 6, .mv (.c (.b false)), none, []⟩])
  .ret)
  .skip))
  (.seq (.seq (.ops [⟨(some 98), 100, .mv (.t 13), none, []⟩, ⟨(some 99), 101, .mv (.t 12), none, []⟩, ⟨(some 100), 102, .bin .neq (.t 98) (.t 99), none, []⟩])
  (.cond (.t 100)
  (.seq (.ops [⟨(some 4), 6, .mv (.c (.b false)), none, []⟩])
  .ret)
  .skip))
  (.seq (.ops [⟨(some 4), 6, .mv (.c (.b true)), none, []⟩])
  .ret)))))))))))))))))))))))))
theorem k10 : compCode Try.prog Try.f10.ntmps Try.f10.body.get! = some c10 := by kernel_rfl
theorem r10 : resTmps Try.prog Try.f10.results.toList = some [.tmp 4] := by kernel_rfl

/-- What is there after j takings, and the things taken. -/
def ahS (g f : List Int) : Nat → List Int × List Int
  | 0 => (g, f)
  | j + 1 => (takeP (ahS g f j).1 (ahS g f j).2).1
def ahE (g f : List Int) : Nat → List (Int × Int)
  | 0 => []
  | j + 1 => ahE g f j ++ [(takeP (ahS g f j).1 (ahS g f j).2).2.1]
@[simp] theorem ahE_len (g f : List Int) (j : Nat) : (ahE g f j).length = j := by
  induction j with
  | zero => rfl
  | succ j ih => simp [ahE, ih]
structure AhI (g f : List Int) (j : Nat) : Prop where
  hg : (ahS g f j).1.length ≤ 2000
  hx : ∀ x ∈ (ahS g f j).2, 0 ≤ x ∧ x < (ahS g f j).1.length
  hr : (ahS g f j).2.length + (2000 - (ahS g f j).1.length) = f.length + (2000 - g.length) - j
theorem AhI.zero {g f : List Int} (h : EntsOkP g f) : AhI g f 0 := ⟨h.2.2, freeOk_mem h.2.1, rfl⟩
theorem AhI.code {g f : List Int} {j : Nat} (h : AhI g f j) : (takeP (ahS g f j).1 (ahS g f j).2).2.2 = if j < f.length + (2000 - g.length) then 0 else 3 := by
  obtain ⟨h1, h2, h3⟩ := h
  unfold takeP
  by_cases hf : (ahS g f j).2 = []
  · rw [hf] at h3
    simp only [List.length_nil, hf, if_true] at h3 ⊢
    by_cases hg : 2000 ≤ (ahS g f j).1.length
    · rw [if_pos hg, if_neg (by omega)]
    · rw [if_neg hg, if_pos (by omega)]
  · have : 0 < (ahS g f j).2.length := List.length_pos_iff.2 hf
    rw [if_neg hf, if_pos (by omega)]
theorem AhI.succ {g f : List Int} {j : Nat} (h : AhI g f j) (hj : j < f.length + (2000 - g.length)) : AhI g f (j + 1) := by
  obtain ⟨h1, h2, h3⟩ := h
  have e : ahS g f (j + 1) = (takeP (ahS g f j).1 (ahS g f j).2).1 := rfl
  by_cases hf : (ahS g f j).2 = []
  · rw [hf] at h3
    simp only [List.length_nil] at h3
    have hg : ¬ 2000 ≤ (ahS g f j).1.length := by omega
    have e2 : ahS g f (j + 1) = ((ahS g f j).1 ++ [0], []) := by rw [e]; simp [takeP, hf, hg]
    refine ⟨?_, ?_, ?_⟩ <;> rw [e2] <;> simp <;> omega
  · have : 0 < (ahS g f j).2.length := List.length_pos_iff.2 hf
    have e2 : ahS g f (j + 1) = ((ahS g f j).1, (ahS g f j).2.dropLast) := by rw [e]; simp [takeP, hf]
    refine ⟨?_, ?_, ?_⟩ <;> rw [e2]
    · exact h1
    · exact fun x hx => h2 x (List.dropLast_subset _ hx)
    · simp only [List.length_dropLast]; omega
def aheadF (g f : List Int) (n : Int) : List (Int × Int) × Bool :=
  if EntsOkP g f ∧ 0 ≤ n ∧ n ≤ f.length + (2000 - g.length) then (ahE g f n.toNat, true) else ([], false)
theorem w35 (g f : List Int) (n : Int) (hg : g.length ≤ 2^40) (hf : f.length ≤ 2^39) (hn : n < 2^63) (hn0 : -2^63 ≤ n) : Contract Try.prog false 35 [.ro, .ro] [entsR g f, .i .i64 n] [.sl true 2 ((aheadF g f n).1.map eT), .b (aheadF g f n).2] [] := by
  refine mk_contract [] Try.func35 (c := Try.f35.body.get!) (by kernel_rfl) k35 r35 (of_decide_eq_true rfl) fun _ => ?_
  unfold c35; unfold entsR; simp
  by_cases hE : EntsOkP g f
  · refine callW_ms [.ro] ?_
    simp
    refine callX_of ((w22 g f hg (by omega)).t hE) (by simp) ?_
    simp
    have hfl := len_le_of_nodup _ f hE.2.1.1 hE.2.1.2
    have hgl := hE.2.2
    by_cases h0 : n < 0
    · simp [h0, aheadF, hE, show ¬ 0 ≤ n by omega]
    · have hw1 : IntKind.i64.wrap ((f.length : Int) + 2000) = f.length + 2000 := wrap_id (by omega) (by omega)
      have hw2 : IntKind.i64.wrap ((f.length : Int) + 2000 - g.length) = f.length + 2000 - g.length := wrap_id (by omega) (by omega)
      simp [h0, hw1, hw2]
      by_cases h1 : (f.length : Int) + 2000 - g.length < n
      · have : ¬ n ≤ (f.length : Int) + (2000 - g.length) := by omega
        simp [h1, aheadF, hE, this]
        intro h2; omega
      · simp [h1]
        intro _
        have hF : aheadF g f n = (ahE g f n.toNat, true) := by unfold aheadF; rw [if_pos ⟨hE, by omega, by omega⟩]
        obtain ⟨m, rfl⟩ : ∃ m : Nat, n = m := ⟨n.toNat, by omega⟩
        refine callW_ms [.ro] ?_
        simp
        refine callX_of (w63 g f hg (by omega)) (by simp) ?_
        simp [entsO]
        refine twp_forR m (fun j s => s.t 6 = .pt [(8, 0)] 0 0 ∧ s.t 7 = .rf [(44, 0)] 0 j ∧ s.t 32 = .i .i64 m ∧ s.t 33 = .i .i64 j ∧ AhI g f j ∧ s.H = lk [(1, []), (4, [.po true [.sl false 1 (g.map iT), .sl false 1 (f.map iT)]]), (8, [.po true [.sl true 1 ((ahS g f j).1.map iT), .sl true 1 ((ahS g f j).2.map iT)]]), (44, [.sl true 2 ((ahE g f j).map eT)])]) [32, 38, 10, 43] [(33, 44)] (by simp) (by simp) ?_ ?_
        · simp [ahS, ahE]; exact AhI.zero hE
        · rintro j s hj ⟨q6, q7, q32, q33, hI, qH⟩
          rw [nf_of qH]
          simp [q6, q7, q32, q33]
          refine ⟨fun hlt => ?_, fun hge => ?_⟩
          · have hw : IntKind.i64.wrap (j + 1) = j + 1 := wrap_id (by omega) (by omega)
            obtain ⟨i1, i2, i3⟩ := id hI
            have hS := hI.succ (by omega)
            refine callW_ms [.own] ?_
            simp
            refine callX_of (w64 (ahS g f j).1 (ahS g f j).2 i1 (by omega) i2) (by simp) ?_
            simp [entT, hw, q6, q7, q32, q33]
            exact ⟨by omega, hlt, hS, by simp [ahS, ahE]⟩
          · obtain rfl : j = m := by omega
            simp [q6, q7, q32, q33, hF]
  · refine callW_ms [.ro] ?_
    simp
    refine callX_of ((w22 g f hg (by omega)).f hE) (by simp) ?_
    simp
    simp [aheadF, hE]
theorem w34 (g f : List Int) (n : Int) (hg : g.length ≤ 2^40) (hf : f.length ≤ 2^39) (hn : n < 2^63) (hn0 : -2^63 ≤ n) : Contract Try.prog false 34 [.ro, .ro] [entsR g f, .i .i64 n] [.sl true 2 ((aheadF g f n).1.map eT), .b (aheadF g f n).2] [] := by
  refine mk_contract [] Try.func34 (c := Try.f34.body.get!) (by kernel_rfl) k34 r34 (of_decide_eq_true rfl) fun _ => ?_
  unfold c34; unfold entsR; simp
  by_cases hE : EntsOkP g f
  · refine callW_ms [.ro] ?_
    simp
    refine callX_of ((w20 g f hg (by omega)).t hE) (by simp) ?_
    simp
    have hfl := len_le_of_nodup _ f hE.2.1.1 hE.2.1.2
    have hgl := hE.2.2
    by_cases h0 : n < 0
    · simp [h0, aheadF, hE, show ¬ 0 ≤ n by omega]
    · simp [h0]
      by_cases h1 : 2000 < n
      · have : ¬ n ≤ (f.length : Int) + (2000 - g.length) := by omega
        simp [h1, aheadF, hE, this]
        intro h2; omega
      · simp [h1]
        intro _
        obtain ⟨m, rfl⟩ : ∃ m : Nat, n = m := ⟨n.toNat, by omega⟩
        refine callW_ms [.ro] ?_
        simp
        refine callX_of (w61 g f hg (by omega)) (by simp) ?_
        simp [entsO]
        refine twp_forR m (fun j s => s.t 1 = .i .i64 m ∧ s.t 2 = .pt [(4, 0)] 0 0 ∧ s.t 6 = .rf [(44, 0)] 0 j ∧ s.t 7 = .i .i64 j ∧ AhI g f j ∧ j ≤ f.length + (2000 - g.length) ∧ s.H = lk [(1, []), (4, [.po true [.sl true 1 ((ahS g f j).1.map iT), .sl true 1 ((ahS g f j).2.map iT)]]), (44, [.sl true 2 ((ahE g f j).map eT)])]) [25, 34, 10, 11, 43] [(26, 44)] (by simp) (by simp) ?_ ?_
        · simp [ahS, ahE]; exact AhI.zero hE
        · rintro j s hj ⟨q1, q2, q6, q7, hI, hj2, qH⟩
          rw [nf_of qH]
          simp [q1, q2, q6, q7]
          refine ⟨fun hlt => ?_, fun hge => ?_⟩
          · have hw : IntKind.i64.wrap (j + 1) = j + 1 := wrap_id (by omega) (by omega)
            obtain ⟨i1, i2, i3⟩ := id hI
            have hc := hI.code
            refine callW_ms [.own] ?_
            simp [entsO]
            refine callX_of (w62 (ahS g f j).1 (ahS g f j).2 (by omega) (by omega) i2) (by simp) ?_
            simp [entsO, entT, hw, q1, q2, q6, q7]
            refine ⟨fun hz => ?_, fun hz => ?_⟩
            · have hR : j < f.length + (2000 - g.length) := by
                rw [hc] at hz; split at hz
                · assumption
                · cases hz
              exact ⟨by omega, hlt, hI.succ hR, by omega, by simp [ahS, ahE]⟩
            · have hR : ¬ j < f.length + (2000 - g.length) := fun h => hz (by rw [hc, if_pos h])
              have : aheadF g f m = ([], false) := by unfold aheadF; rw [if_neg (fun h => by have := h.2.2; omega)]
              simp [this]
          · obtain rfl : j = m := by omega
            have hF : aheadF g f j = (ahE g f j, true) := by unfold aheadF; rw [if_pos ⟨hE, by omega, by omega⟩]; rfl
            simp [q1, q2, q6, q7, hF]
  · refine callW_ms [.ro] ?_
    simp
    refine callX_of ((w20 g f hg (by omega)).f hE) (by simp) ?_
    simp
    simp [aheadF, hE]
theorem aheadF_len {g f : List Int} {n : Int} : (aheadF g f n).1.length ≤ f.length + 2000 := by
  unfold aheadF; split
  · rename_i h; simp; omega
  · simp
theorem w10 (g f : List Int) (n : Int) (hg : g.length < 2^63) (hf : f.length < 2^63) (hn : n < 2^63) (hn0 : -2^63 ≤ n) : Contract Try.prog false 10 [.ro, .ro] [entsR g f, .i .i64 n] [.b true] [] := by
  refine mk_contract [] Try.func10 (c := Try.f10.body.get!) (by kernel_rfl) k10 r10 (of_decide_eq_true rfl) fun _ => ?_
  unfold c10; unfold entsR; simp
  refine callW_ms [.ro, .ro] ?_
  simp
  refine callX_of (w19 g f _ hg hf (by omega) (by omega)) (by simp) ?_
  simp
  intro h
  obtain ⟨hg2, hf2⟩ := szEntsF_len (by omega : ¬ szEntsF g f 1048576 < 0)
  have hl := @aheadF_len g f n
  have hS := w34 g f n (by omega) (by omega) hn hn0
  have hI := w35 g f n (by omega) (by omega) hn hn0
  obtain ⟨l, b, hP⟩ : ∃ l b, aheadF g f n = (l, b) := ⟨_, _, rfl⟩
  rw [hP] at hS hI hl
  simp only at hS hI hl
  refine callW_ms [.ro] ?_
  simp
  refine callX_of (w21 g f (by omega) (by omega)) (by simp) ?_
  simp [entsO]
  refine callW_ms [.ro, .ro] ?_
  simp
  refine callX_of hS (by simp) ?_
  simp
  refine callW_ms [.ro] ?_
  simp
  refine callX_of (w21 g f (by omega) (by omega)) (by simp) ?_
  simp [entsO]
  refine callW_ms [.ro, .ro] ?_
  simp
  refine callX_of hI (by simp) ?_
  simp
  refine callW_ms [.ro, .ro] ?_
  simp
  refine callX_of (w36 l l (by omega) (by omega)) (by simp) ?_
  simp
  refine callW_ms [.ro] ?_
  simp
  refine callX_of (w21 g f (by omega) (by omega)) (by simp) ?_
  simp [entsO]
  refine callW_ms [.ro, .ro] ?_
  simp
  refine callX_of (w23 g f g f (by omega) (by omega) (by omega) (by omega)) (by simp) ?_
  simp
  have hk : ¬ (1 + (g.length : Int) + f.length < 0) := by omega
  refine callW_ms [.own, .ro] ?_
  simp
  refine callX_of (w30 g f 1 (by omega) (by omega) (by omega) (by omega)) (by simp) ?_
  simp [entsO, hk]
  refine callW_ms [.ro, .ro] ?_
  simp
  refine callX_of (w36 l l (by omega) (by omega)) (by simp) ?_
  simp
  refine callW_ms [.own, .ro] ?_
  simp
  refine callX_of (w37 l 1 (by omega) (by omega) (by omega)) (by simp) ?_
  simp
  refine callW_ms [.ro, .ro] ?_
  simp
  refine callX_of (w38 l.length 1 (by omega) (by omega) (by omega)) (by simp) ?_
  simp
  refine ⟨by omega, fun _ => ?_⟩
  refine callW_ms [.ro] ?_
  simp
  refine callX_of (w21 g f (by omega) (by omega)) (by simp) ?_
  simp [entsO]
  refine callW_ms [.ro, .ro] ?_
  simp
  refine callX_of hI (by simp) ?_
  simp
  refine callW_ms [.ro, .ro] ?_
  simp
  refine callX_of (w36 l l (by omega) (by omega)) (by simp) ?_
  simp
  refine callW_ms [.ro, .ro] ?_
  simp
  refine callX_of (w38 l.length 1 (by omega) (by omega) (by omega)) (by simp) ?_
  simp
  omega
end Go.Proofs.YtlddgmpaaobpoaaT
