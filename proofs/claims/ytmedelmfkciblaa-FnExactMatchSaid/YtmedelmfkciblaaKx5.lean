/- Match. -/
import Derived.Test.YtmedelmfkciblaaKx4
import Derived.Test.YtmedelmfkciblaaKi
namespace Go.Proofs.YtmedelmfkciblaaT
set_option linter.unusedVariables false
set_option linter.unusedSimpArgs false
open Go

/- spec.l4At -/
def c100 : TCode := (.seq (.ops [⟨(some 4), 6, .mv (.c (.i .i64 0)), none, []⟩])
  (.seq (.seq (.ops [⟨(some 5), 7, .mv (.c (.i .i64 0)), none, []⟩])
  (.block 0 (.loop (.seq (.seq (.ops [⟨(some 6), 8, .mv (.t 5), none, []⟩, ⟨(some 7), 9, .mv (.t 0), none, []⟩, ⟨(some 8), 10, .len false (.t 7), none, []⟩, ⟨(some 9), 11, .bin .lss (.t 6) (.t 8), none, []⟩])
  (.cond (.t 9)
  .skip
  (.exit 0)))
  (.seq (.block 1 (.seq (.ops [⟨(some 12), 14, .mv (.t 0), none, []⟩, ⟨(some 13), 15, .mv (.t 5), none, []⟩, ⟨(some 14), 16, .iaddr 1 (.t 12) (.t 13), none, []⟩, ⟨(some 15), 17, .load false 1 (.t 14), none, []⟩, ⟨(some 16), 18, .mv (.t 1), none, []⟩, ⟨(some 17), 19, .bin .eql (.t 15) (.t 16), none, []⟩])
  (.cond (.t 17)
  (.seq (.ops [⟨(some 18), 20, .mv (.t 5), none, []⟩, ⟨(some 4), 6, .mv (.t 18), none, []⟩])
  .ret)
  .skip)))
  (.ops [⟨(some 10), 12, .mv (.t 5), none, []⟩, ⟨(some 11), 13, .bin .add (.t 10) (.c (.i .i64 1)), none, []⟩, ⟨(some 5), 7, .mv (.t 11), none, []⟩]))))))
  (.seq (.ops [⟨(some 4), 6, .mv (.c (.i .i64 (-1))), none, []⟩])
  .ret)))
theorem k100 : compCode Try.prog Try.f100.ntmps Try.f100.body.get! = some c100 := by kernel_rfl
theorem r100 : resTmps Try.prog Try.f100.results.toList = some [.tmp 4] := by kernel_rfl
/- slices.IndexFunc[[]int,int] -/
def c160 : TCode := (.seq (.ops [⟨(some 4), 6, .mv (.c (.i .i64 0)), none, []⟩])
  (.seq (.seq (.ops [⟨(some 6), 8, .mv (.t 0), none, []⟩, ⟨(some 7), 9, .len false (.t 6), none, []⟩, ⟨(some 8), 10, .mv (.c (.i .i64 0)), none, []⟩])
  (.block 0 (.loop (.seq (.ops [⟨(some 9), 11, .bin .lss (.t 8) (.t 7), none, []⟩])
  (.seq (.cond (.t 9)
  .skip
  (.exit 0))
  (.seq (.block 1 (.seq (.ops [⟨(some 10), 12, .mv (.t 8), none, []⟩, ⟨(some 5), 7, .mv (.t 10), none, []⟩])
  (.seq (.ops [⟨(some 11), 13, .mv (.t 1), none, []⟩, ⟨(some 12), 14, .mv (.t 0), none, []⟩, ⟨(some 13), 15, .mv (.t 5), none, []⟩, ⟨(some 14), 16, .iaddr 1 (.t 12) (.t 13), none, []⟩, ⟨(some 15), 17, .load false 1 (.t 14), none, []⟩, ⟨(some 16), 18, .callv (.t 11) [((.t 15), 0)], none, []⟩])
  (.cond (.t 16)
  (.seq (.ops [⟨(some 17), 19, .mv (.t 5), none, []⟩, ⟨(some 4), 6, .mv (.t 17), none, []⟩])
  .ret)
  .skip))))
  (.ops [⟨(some 18), 20, .bin .add (.t 8) (.c (.i .i64 1)), none, []⟩, ⟨(some 8), 10, .mv (.t 18), none, []⟩])))))))
  (.seq (.ops [⟨(some 4), 6, .mv (.c (.i .i64 (-1))), none, []⟩])
  .ret)))
theorem k160 : compCode Try.prog Try.f160.ntmps Try.f160.body.get! = some c160 := by kernel_rfl
theorem r160 : resTmps Try.prog Try.f160.results.toList = some [.tmp 4] := by kernel_rfl
/- slices.ContainsFunc[[]int,int] -/
def c104 : TCode := (.seq (.ops [⟨(some 4), 6, .mv (.c (.b false)), none, []⟩])
  (.seq (.ops [⟨(some 5), 7, .mv (.t 0), none, []⟩, ⟨(some 6), 8, .mv (.t 1), none, []⟩, ⟨(some 7), 9, .call 160 [((.t 5), 0), ((.t 6), 0)], none, []⟩, ⟨(some 8), 10, .bin .geq (.t 7) (.c (.i .i64 0)), none, []⟩, ⟨(some 4), 6, .mv (.t 8), none, []⟩])
  .ret))
theorem k104 : compCode Try.prog Try.f104.ntmps Try.f104.body.get! = some c104 := by kernel_rfl
theorem r104 : resTmps Try.prog Try.f104.results.toList = some [.tmp 4] := by kernel_rfl
/- impl.Match$1 -/
def c105 : TCode := (.seq (.ops [⟨(some 3), 5, .mv (.c (.b false)), none, []⟩])
  (.seq (.ops [⟨(some 4), 6, .load false 1 (.t 1), none, []⟩, ⟨(some 5), 7, .nilck (.t 4), none, []⟩, ⟨(some 6), 8, .faddr 0 1 (.t 5), none, []⟩, ⟨(some 7), 9, .load false 1 (.t 6), none, []⟩, ⟨(some 8), 10, .mv (.t 0), none, []⟩, ⟨(some 9), 11, .call 106 [((.t 7), 0), ((.t 8), 0)], none, []⟩, ⟨(some 10), 12, .un .not (.t 9), none, []⟩, ⟨(some 3), 5, .mv (.t 10), none, []⟩])
  .ret))
theorem k105 : compCode Try.prog Try.f105.ntmps Try.f105.body.get! = some c105 := by kernel_rfl
theorem r105 : resTmps Try.prog Try.f105.results.toList = some [.tmp 3] := by kernel_rfl
/- impl.Match$2 -/
def c107 : TCode := (.seq (.ops [⟨(some 3), 5, .mv (.c (.b false)), none, []⟩])
  (.seq (.ops [⟨(some 4), 6, .load false 1 (.t 1), none, []⟩, ⟨(some 5), 7, .nilck (.t 4), none, []⟩, ⟨(some 6), 8, .faddr 0 1 (.t 5), none, []⟩, ⟨(some 7), 9, .load false 1 (.t 6), none, []⟩, ⟨(some 8), 10, .mv (.t 0), none, []⟩, ⟨(some 9), 11, .call 106 [((.t 7), 0), ((.t 8), 0)], none, []⟩, ⟨(some 3), 5, .mv (.t 9), none, []⟩])
  .ret))
theorem k107 : compCode Try.prog Try.f107.ntmps Try.f107.body.get! = some c107 := by kernel_rfl
theorem r107 : resTmps Try.prog Try.f107.results.toList = some [.tmp 3] := by kernel_rfl
/- spec.Match -/
def c50 : TCode := (.seq (.ops [⟨(some 3), 5, .box 4 (.t 0), none, []⟩, ⟨(some 6), 8, .mv (.c (.sl true 2 [])), none, []⟩])
  (.seq (.ops [⟨(some 12), 14, .bslice 2 0 [(.i .i64 0), (.i .i64 0)] [], none, []⟩, ⟨(some 7), 9, .mv (.t 12), none, []⟩])
  (.seq (.seq (.ops [⟨(some 13), 15, .faddr 2 1 (.t 3), none, []⟩, ⟨(some 14), 16, .load false 1 (.t 13), none, []⟩, ⟨(some 15), 17, .len false (.t 14), none, []⟩, ⟨(some 16), 18, .bin .gtr (.t 15) (.c (.i .i64 40)), none, []⟩, ⟨(some 17), 19, .mv (.t 16), none, []⟩, ⟨(some 18), 20, .mv (.t 1), (some (17, false)), []⟩, ⟨(some 19), 21, .len false (.t 18), (some (17, false)), []⟩, ⟨(some 20), 22, .bin .gtr (.t 19) (.c (.i .i64 12)), (some (17, false)), []⟩, ⟨(some 21), 23, .pick (.t 17) (.c (.b true)) (.t 20), none, []⟩, ⟨(some 22), 24, .mv (.t 21), none, []⟩, ⟨(some 23), 25, .mv (.t 2), (some (22, false)), []⟩, ⟨(some 24), 26, .len false (.t 23), (some (22, false)), []⟩, ⟨(some 25), 27, .bin .gtr (.t 24) (.c (.i .i64 12)), (some (22, false)), []⟩, ⟨(some 26), 28, .pick (.t 22) (.c (.b true)) (.t 25), none, []⟩])
  (.cond (.t 26)
  (.seq (.ops [⟨(some 27), 29, .mv (.t 7), none, []⟩, ⟨(some 6), 8, .mv (.t 27), none, []⟩])
  .ret)
  .skip))
  (.seq (.seq (.ops [⟨(some 8), 10, .mv (.c (.i .i64 0)), none, []⟩])
  (.block 0 (.loop (.seq (.seq (.ops [⟨(some 28), 30, .mv (.t 8), none, []⟩, ⟨(some 29), 31, .faddr 2 1 (.t 3), none, []⟩, ⟨(some 30), 32, .load false 1 (.t 29), none, []⟩, ⟨(some 31), 33, .len false (.t 30), none, []⟩, ⟨(some 32), 34, .bin .lss (.t 28) (.t 31), none, []⟩])
  (.cond (.t 32)
  .skip
  (.exit 0)))
  (.seq (.block 1 (.seq (.ops [⟨(some 9), 11, .mv (.c (.b true)), none, []⟩])
  (.seq (.seq (.ops [⟨(some 10), 12, .mv (.c (.i .i64 0)), none, []⟩])
  (.block 2 (.loop (.seq (.seq (.ops [⟨(some 35), 37, .mv (.t 10), none, []⟩, ⟨(some 36), 38, .mv (.t 1), none, []⟩, ⟨(some 37), 39, .len false (.t 36), none, []⟩, ⟨(some 38), 40, .bin .lss (.t 35) (.t 37), none, []⟩, ⟨(some 39), 41, .mv (.t 38), none, []⟩, ⟨(some 40), 42, .mv (.t 9), (some (39, true)), []⟩, ⟨(some 41), 43, .pick (.t 39) (.t 40) (.c (.b false)), none, []⟩])
  (.cond (.t 41)
  .skip
  (.exit 2)))
  (.seq (.block 3 (.draw [⟨(some 44), 46, .faddr 2 1 (.t 3), none, []⟩, ⟨(some 45), 47, .load false 1 (.t 44), none, []⟩, ⟨(some 46), 48, .mv (.t 8), none, []⟩, ⟨(some 47), 49, .iaddr 3 (.t 45) (.t 46), none, []⟩, ⟨(some 48), 50, .faddr 0 1 (.t 47), none, []⟩, ⟨(some 49), 51, .load false 1 (.t 48), none, []⟩, ⟨(some 50), 52, .mv (.t 1), none, []⟩, ⟨(some 51), 53, .mv (.t 10), none, []⟩, ⟨(some 52), 54, .iaddr 1 (.t 50) (.t 51), none, []⟩, ⟨(some 53), 55, .load false 1 (.t 52), none, []⟩, ⟨(some 54), 56, .call 100 [((.t 49), 0), ((.t 53), 0)], none, []⟩, ⟨(some 55), 57, .bin .geq (.t 54) (.c (.i .i64 0)), none, []⟩, ⟨(some 9), 11, .mv (.t 55), none, []⟩]))
  (.ops [⟨(some 42), 44, .mv (.t 10), none, []⟩, ⟨(some 43), 45, .bin .add (.t 42) (.c (.i .i64 1)), none, []⟩, ⟨(some 10), 12, .mv (.t 43), none, []⟩]))))))
  (.seq (.seq (.ops [⟨(some 11), 13, .mv (.c (.i .i64 0)), none, []⟩])
  (.block 4 (.loop (.seq (.seq (.ops [⟨(some 56), 58, .mv (.t 11), none, []⟩, ⟨(some 57), 59, .mv (.t 2), none, []⟩, ⟨(some 58), 60, .len false (.t 57), none, []⟩, ⟨(some 59), 61, .bin .lss (.t 56) (.t 58), none, []⟩, ⟨(some 60), 62, .mv (.t 59), none, []⟩, ⟨(some 61), 63, .mv (.t 9), (some (60, true)), []⟩, ⟨(some 62), 64, .pick (.t 60) (.t 61) (.c (.b false)), none, []⟩])
  (.cond (.t 62)
  .skip
  (.exit 4)))
  (.seq (.block 5 (.draw [⟨(some 65), 67, .faddr 2 1 (.t 3), none, []⟩, ⟨(some 66), 68, .load false 1 (.t 65), none, []⟩, ⟨(some 67), 69, .mv (.t 8), none, []⟩, ⟨(some 68), 70, .iaddr 3 (.t 66) (.t 67), none, []⟩, ⟨(some 69), 71, .faddr 0 1 (.t 68), none, []⟩, ⟨(some 70), 72, .load false 1 (.t 69), none, []⟩, ⟨(some 71), 73, .mv (.t 2), none, []⟩, ⟨(some 72), 74, .mv (.t 11), none, []⟩, ⟨(some 73), 75, .iaddr 1 (.t 71) (.t 72), none, []⟩, ⟨(some 74), 76, .load false 1 (.t 73), none, []⟩, ⟨(some 75), 77, .call 100 [((.t 70), 0), ((.t 74), 0)], none, []⟩, ⟨(some 76), 78, .bin .lss (.t 75) (.c (.i .i64 0)), none, []⟩, ⟨(some 9), 11, .mv (.t 76), none, []⟩]))
  (.ops [⟨(some 63), 65, .mv (.t 11), none, []⟩, ⟨(some 64), 66, .bin .add (.t 63) (.c (.i .i64 1)), none, []⟩, ⟨(some 11), 13, .mv (.t 64), none, []⟩]))))))
  (.seq (.ops [⟨(some 77), 79, .mv (.t 9), none, []⟩])
  (.cond (.t 77)
  (.ops [⟨(some 78), 80, .mv (.t 7), none, []⟩, ⟨(some 79), 81, .faddr 2 1 (.t 3), none, []⟩, ⟨(some 80), 82, .load false 1 (.t 79), none, []⟩, ⟨(some 81), 83, .mv (.t 8), none, []⟩, ⟨(some 82), 84, .iaddr 3 (.t 80) (.t 81), none, []⟩, ⟨(some 83), 85, .faddr 1 1 (.t 82), none, []⟩, ⟨(some 84), 86, .load false 1 (.t 83), none, []⟩, ⟨(some 85), 87, .app 2 16 (.t 78) (.t 84), none, []⟩, ⟨(some 7), 9, .mv (.t 85), none, []⟩])
  .skip))))))
  (.ops [⟨(some 33), 35, .mv (.t 8), none, []⟩, ⟨(some 34), 36, .bin .add (.t 33) (.c (.i .i64 1)), none, []⟩, ⟨(some 8), 10, .mv (.t 34), none, []⟩]))))))
  (.seq (.ops [⟨(some 86), 88, .mv (.t 7), none, []⟩, ⟨(some 6), 8, .mv (.t 86), none, []⟩])
  .ret)))))
theorem k50 : compCode Try.prog Try.f50.ntmps Try.f50.body.get! = some c50 := by kernel_rfl
theorem r50 : resTmps Try.prog Try.f50.results.toList = some [.tmp 6] := by kernel_rfl
/- impl.Match -/
def c53 : TCode := (.seq (.ops [⟨(some 3), 5, .box 4 (.t 0), none, []⟩, ⟨(some 6), 8, .mv (.c (.sl true 2 [])), none, []⟩])
  (.seq (.ops [⟨(some 11), 13, .bslice 2 0 [(.i .i64 0), (.i .i64 0)] [], none, []⟩, ⟨(some 7), 9, .mv (.t 11), none, []⟩])
  (.seq (.seq (.ops [⟨(some 12), 14, .faddr 2 1 (.t 3), none, []⟩, ⟨(some 13), 15, .load false 1 (.t 12), none, []⟩, ⟨(some 14), 16, .len false (.t 13), none, []⟩, ⟨(some 15), 17, .bin .gtr (.t 14) (.c (.i .i64 40)), none, []⟩, ⟨(some 16), 18, .mv (.t 15), none, []⟩, ⟨(some 17), 19, .mv (.t 1), (some (16, false)), []⟩, ⟨(some 18), 20, .len false (.t 17), (some (16, false)), []⟩, ⟨(some 19), 21, .bin .gtr (.t 18) (.c (.i .i64 12)), (some (16, false)), []⟩, ⟨(some 20), 22, .pick (.t 16) (.c (.b true)) (.t 19), none, []⟩, ⟨(some 21), 23, .mv (.t 20), none, []⟩, ⟨(some 22), 24, .mv (.t 2), (some (21, false)), []⟩, ⟨(some 23), 25, .len false (.t 22), (some (21, false)), []⟩, ⟨(some 24), 26, .bin .gtr (.t 23) (.c (.i .i64 12)), (some (21, false)), []⟩, ⟨(some 25), 27, .pick (.t 21) (.c (.b true)) (.t 24), none, []⟩])
  (.cond (.t 25)
  (.seq (.ops [⟨(some 26), 28, .mv (.t 7), none, []⟩, ⟨(some 6), 8, .mv (.t 26), none, []⟩])
  .ret)
  .skip))
  (.seq (.seq (.ops [⟨(some 27), 29, .faddr 2 1 (.t 3), none, []⟩, ⟨(some 28), 30, .load false 1 (.t 27), none, []⟩, ⟨(some 29), 31, .len false (.t 28), none, []⟩, ⟨(some 30), 32, .mv (.c (.i .i64 0)), none, []⟩])
  (.block 0 (.loop (.seq (.ops [⟨(some 31), 33, .bin .lss (.t 30) (.t 29), none, []⟩])
  (.seq (.cond (.t 31)
  .skip
  (.exit 0))
  (.seq (.block 1 (.seq (.ops [⟨(some 32), 34, .mv (.t 30), none, []⟩, ⟨(some 8), 10, .mv (.t 32), none, []⟩])
  (.seq (.ops [⟨(some 33), 35, .faddr 2 1 (.t 3), none, []⟩, ⟨(some 34), 36, .load false 1 (.t 33), none, []⟩, ⟨(some 35), 37, .mv (.t 8), none, []⟩, ⟨(some 36), 38, .iaddr 3 (.t 34) (.t 35), none, []⟩, ⟨(some 9), 11, .box 1 (.c .np), none, []⟩, ⟨none, 1007005, .store 1 (.t 9) (.t 36), none, []⟩])
  (.seq (.ops [⟨(some 37), 39, .mv (.t 1), none, []⟩, ⟨(some 38), 40, .mkfn 105 [(.t 9)], none, []⟩, ⟨(some 39), 41, .call 104 [((.t 37), 0), ((.t 38), 0)], none, []⟩, ⟨(some 10), 12, .mv (.t 39), none, []⟩])
  (.seq (.ops [⟨(some 40), 42, .mv (.t 10), none, []⟩, ⟨(some 41), 43, .un .not (.t 40), none, []⟩, ⟨(some 42), 44, .mv (.t 41), none, []⟩, ⟨(some 43), 45, .mv (.t 2), (some (42, true)), []⟩, ⟨(some 44), 46, .mkfn 107 [(.t 9)], (some (42, true)), []⟩, ⟨(some 45), 47, .call 104 [((.t 43), 0), ((.t 44), 0)], (some (42, true)), []⟩, ⟨(some 46), 48, .un .not (.t 45), (some (42, true)), []⟩, ⟨(some 47), 49, .pick (.t 42) (.t 46) (.c (.b false)), none, []⟩])
  (.cond (.t 47)
  (.ops [⟨(some 48), 50, .mv (.t 7), none, []⟩, ⟨(some 49), 51, .load false 1 (.t 9), none, []⟩, ⟨(some 50), 52, .nilck (.t 49), none, []⟩, ⟨(some 51), 53, .faddr 1 1 (.t 50), none, []⟩, ⟨(some 52), 54, .load false 1 (.t 51), none, []⟩, ⟨(some 53), 55, .app 2 16 (.t 48) (.t 52), none, []⟩, ⟨(some 7), 9, .mv (.t 53), none, []⟩])
  .skip))))))
  (.ops [⟨(some 54), 56, .bin .add (.t 30) (.c (.i .i64 1)), none, []⟩, ⟨(some 30), 32, .mv (.t 54), none, []⟩])))))))
  (.seq (.ops [⟨(some 55), 57, .mv (.t 7), none, []⟩, ⟨(some 6), 8, .mv (.t 55), none, []⟩])
  .ret)))))
theorem k53 : compCode Try.prog Try.f53.ntmps Try.f53.body.get! = some c53 := by kernel_rfl
theorem r53 : resTmps Try.prog Try.f53.results.toList = some [.tmp 6] := by kernel_rfl
/- laws.FnExactMatch -/
def c9 : TCode := (.seq (.ops [⟨(some 3), 5, .box 4 (.t 0), none, []⟩, ⟨(some 6), 8, .mv (.c (.b false)), none, []⟩])
  (.seq (.seq (.ops [⟨(some 17), 19, .mv (.t 1), none, []⟩, ⟨(some 18), 20, .len false (.t 17), none, []⟩, ⟨(some 19), 21, .bin .gtr (.t 18) (.c (.i .i64 1048576)), none, []⟩])
  (.cond (.t 19)
  (.seq (.ops [⟨(some 6), 8, .mv (.c (.b true)), none, []⟩])
  .ret)
  .skip))
  (.seq (.seq (.ops [⟨(some 20), 22, .mv (.t 2), none, []⟩, ⟨(some 21), 23, .len false (.t 20), none, []⟩, ⟨(some 22), 24, .bin .gtr (.t 21) (.c (.i .i64 1048576)), none, []⟩])
  (.cond (.t 22)
  (.seq (.ops [⟨(some 6), 8, .mv (.c (.b true)), none, []⟩])
  .ret)
  .skip))
  (.seq (.ops [⟨(some 7), 9, .mv (.c (.i .i64 1048576)), none, []⟩])
  (.seq (.ops [⟨(some 23), 25, .load true 4 (.t 3), none, []⟩, ⟨(some 24), 26, .mv (.t 7), none, []⟩, ⟨(some 25), 27, .call 49 [((.t 23), 0), ((.t 24), 0)], none, []⟩, ⟨(some 7), 9, .mv (.t 25), none, []⟩])
  (.seq (.seq (.ops [⟨(some 26), 28, .mv (.t 7), none, []⟩, ⟨(some 27), 29, .bin .lss (.t 26) (.c (.i .i64 0)), none, []⟩])
  (.cond (.t 27)
  (.seq (.ops [⟨(some 6), 8, .mv (.c (.b true)), none, []⟩])
  .ret)
  .skip))
  (.seq (.ops [⟨(some 28), 30, .load true 4 (.t 3), none, []⟩, ⟨(some 29), 31, .call 51 [((.t 28), 0)], none, []⟩, ⟨(some 30), 32, .mv (.t 1), none, []⟩, ⟨(some 31), 33, .call 52 [((.t 30), 0)], none, []⟩, ⟨(some 32), 34, .mv (.t 2), none, []⟩, ⟨(some 33), 35, .call 52 [((.t 32), 0)], none, []⟩, ⟨(some 34), 36, .call 50 [((.t 29), 0), ((.t 31), 0), ((.t 33), 0)], none, []⟩, ⟨(some 8), 10, .mv (.t 34), none, []⟩])
  (.seq (.ops [⟨(some 35), 37, .load true 4 (.t 3), none, []⟩, ⟨(some 36), 38, .call 51 [((.t 35), 0)], none, []⟩, ⟨(some 9), 11, .box 4 (.c (.ag [(.sl true 1 []), (.sl true 1 []), (.sl true 3 []), (.sl true 4 [])])), none, []⟩, ⟨none, 1010003, .store 4 (.t 9) (.t 36), none, []⟩])
  (.seq (.ops [⟨(some 37), 39, .mv (.t 1), none, []⟩, ⟨(some 38), 40, .call 52 [((.t 37), 0)], none, []⟩, ⟨(some 10), 12, .mv (.t 38), none, []⟩])
  (.seq (.ops [⟨(some 39), 41, .mv (.t 2), none, []⟩, ⟨(some 40), 42, .call 52 [((.t 39), 0)], none, []⟩, ⟨(some 11), 13, .mv (.t 40), none, []⟩])
  (.seq (.ops [⟨(some 41), 43, .load true 4 (.t 9), none, []⟩, ⟨(some 42), 44, .mv (.t 10), none, []⟩, ⟨(some 43), 45, .mv (.t 11), none, []⟩, ⟨(some 44), 46, .call 53 [((.t 41), 0), ((.t 42), 0), ((.t 43), 0)], none, []⟩, ⟨(some 12), 14, .mv (.t 44), none, []⟩])
  (.seq (.seq (.ops [⟨(some 45), 47, .mv (.t 12), none, []⟩, ⟨(some 46), 48, .mv (.t 8), none, []⟩, ⟨(some 47), 49, .call 54 [((.t 45), 0), ((.t 46), 0)], none, []⟩, ⟨(some 48), 50, .un .not (.t 47), none, []⟩])
  (.cond (.t 48)
  (.seq (.ops [⟨(some 6), 8, .mv (.c (.b false)), none, []⟩])
  .ret)
  .skip))
  (.seq (.seq (.draw [⟨(some 49), 51, .load true 4 (.t 9), none, []⟩, ⟨(some 50), 52, .load true 4 (.t 3), none, []⟩, ⟨(some 51), 53, .call 51 [((.t 50), 0)], none, [0]⟩, ⟨(some 52), 54, .call 55 [((.t 49), 0), ((.t 51), 0)], none, []⟩, ⟨(some 53), 55, .un .not (.t 52), none, []⟩])
  (.cond (.t 53)
  (.seq (.ops [⟨(some 6), 8, .mv (.c (.b false)), none, []⟩])
  .ret)
  .skip))
  (.seq (.seq (.ops [⟨(some 54), 56, .mv (.t 10), none, []⟩, ⟨(some 55), 57, .mv (.t 1), none, []⟩, ⟨(some 56), 58, .call 52 [((.t 55), 0)], none, []⟩, ⟨(some 57), 59, .call 31 [((.t 54), 0), ((.t 56), 0)], none, []⟩, ⟨(some 58), 60, .un .not (.t 57), none, []⟩])
  (.cond (.t 58)
  (.seq (.ops [⟨(some 6), 8, .mv (.c (.b false)), none, []⟩])
  .ret)
  .skip))
  (.seq (.seq (.ops [⟨(some 59), 61, .mv (.t 11), none, []⟩, ⟨(some 60), 62, .mv (.t 2), none, []⟩, ⟨(some 61), 63, .call 52 [((.t 60), 0)], none, []⟩, ⟨(some 62), 64, .call 31 [((.t 59), 0), ((.t 61), 0)], none, []⟩, ⟨(some 63), 65, .un .not (.t 62), none, []⟩])
  (.cond (.t 63)
  (.seq (.ops [⟨(some 6), 8, .mv (.c (.b false)), none, []⟩])
  .ret)
  .skip))
  (.seq (.ops [⟨(some 13), 15, .mv (.c (.i .i64 1)), none, []⟩])
  (.seq (.ops [⟨(some 64), 66, .load true 4 (.t 9), none, []⟩, ⟨(some 65), 67, .mv (.t 13), none, []⟩, ⟨(some 66), 68, .call 56 [((.t 64), 0), ((.t 65), 0)], none, []⟩, ⟨(some 13), 15, .mv (.t 66), none, []⟩])
  (.seq (.ops [⟨(some 67), 69, .mv (.t 10), none, []⟩, ⟨(some 68), 70, .mv (.t 13), none, []⟩, ⟨(some 69), 71, .call 34 [((.t 67), 0), ((.t 68), 0)], none, []⟩, ⟨(some 13), 15, .mv (.t 69), none, []⟩])
  (.seq (.ops [⟨(some 70), 72, .mv (.t 11), none, []⟩, ⟨(some 71), 73, .mv (.t 13), none, []⟩, ⟨(some 72), 74, .call 34 [((.t 70), 0), ((.t 71), 0)], none, []⟩, ⟨(some 13), 15, .mv (.t 72), none, []⟩])
  (.seq (.seq (.ops [⟨(some 73), 75, .mv (.t 13), none, []⟩, ⟨(some 74), 76, .bin .lss (.t 73) (.c (.i .i64 0)), none, []⟩, ⟨(some 75), 77, .mv (.t 74), none, []⟩, ⟨(some 76), 78, .mv (.t 12), (some (75, false)), []⟩, ⟨(some 77), 79, .mv (.t 8), (some (75, false)), []⟩, ⟨(some 78), 80, .call 54 [((.t 76), 0), ((.t 77), 0)], (some (75, false)), []⟩, ⟨(some 79), 81, .un .not (.t 78), (some (75, false)), []⟩, ⟨(some 80), 82, .pick (.t 75) (.c (.b true)) (.t 79), none, []⟩])
  (.cond (.t 80)
  (.seq (.ops [⟨(some 6), 8, .mv (.c (.b false)), none, []⟩])
  .ret)
  .skip))
  (.seq (.ops [⟨(some 14), 16, .mv (.c (.i .i64 1)), none, []⟩])
  (.seq (.ops [⟨(some 81), 83, .mv (.t 12), none, []⟩, ⟨(some 82), 84, .mv (.t 14), none, []⟩, ⟨(some 83), 85, .call 57 [((.t 81), 0), ((.t 82), 0)], none, []⟩, ⟨(some 14), 16, .mv (.t 83), none, []⟩])
  (.seq (.ops [⟨(some 15), 17, .mv (.c (.i .i64 1)), none, []⟩])
  (.seq (.ops [⟨(some 84), 86, .mv (.t 12), none, []⟩, ⟨(some 85), 87, .mv (.t 15), none, []⟩, ⟨(some 86), 88, .call 58 [((.t 84), 0), ((.t 85), 0)], none, []⟩, ⟨(some 15), 17, .mv (.t 86), none, []⟩])
  (.seq (.seq (.ops [⟨(some 87), 89, .mv (.t 15), none, []⟩, ⟨(some 88), 90, .bin .lss (.t 87) (.c (.i .i64 0)), none, []⟩])
  (.cond (.t 88)
  (.seq (.ops [⟨(some 6), 8, .mv (.c (.b false)), none, []⟩])
  .ret)
  .skip))
  (.seq (.seq (.ops [⟨(some 89), 91, .mv (.t 15), none, []⟩, ⟨(some 90), 92, .mv (.t 14), none, []⟩, ⟨(some 91), 93, .bin .neq (.t 89) (.t 90), none, []⟩])
  (.cond (.t 91)
  (.seq (.ops [⟨(some 6), 8, .mv (.c (.b false)), none, []⟩])
  .ret)
  .skip))
  (.seq (.ops [⟨(some 92), 94, .load true 4 (.t 3), none, []⟩, ⟨(some 93), 95, .call 51 [((.t 92), 0)], none, []⟩, ⟨(some 94), 96, .mv (.t 1), none, []⟩, ⟨(some 95), 97, .call 52 [((.t 94), 0)], none, []⟩, ⟨(some 96), 98, .mv (.t 2), none, []⟩, ⟨(some 97), 99, .call 52 [((.t 96), 0)], none, []⟩, ⟨(some 98), 100, .call 53 [((.t 93), 0), ((.t 95), 0), ((.t 97), 0)], none, []⟩, ⟨(some 16), 18, .mv (.t 98), none, []⟩])
  (.seq (.seq (.ops [⟨(some 99), 101, .mv (.t 16), none, []⟩, ⟨(some 100), 102, .mv (.t 8), none, []⟩, ⟨(some 101), 103, .call 54 [((.t 99), 0), ((.t 100), 0)], none, []⟩, ⟨(some 102), 104, .un .not (.t 101), none, []⟩])
  (.cond (.t 102)
  (.seq (.ops [⟨(some 6), 8, .mv (.c (.b false)), none, []⟩])
  .ret)
  .skip))
  (.seq (.ops [⟨(some 15), 17, .mv (.c (.i .i64 1)), none, []⟩])
  (.seq (.ops [⟨(some 103), 105, .mv (.t 12), none, []⟩, ⟨(some 104), 106, .mv (.t 15), none, []⟩, ⟨(some 105), 107, .call 58 [((.t 103), 0), ((.t 104), 0)], none, []⟩, ⟨(some 15), 17, .mv (.t 105), none, []⟩])
  (.seq (.seq (.ops [⟨(some 106), 108, .mv (.t 15), none, []⟩, ⟨(some 107), 109, .bin .lss (.t 106) (.c (.i .i64 0)), none, []⟩])
  (.cond (.t 107)
  (.seq (.ops [⟨(some 6), 8, .mv (.c (.b false)), none, []⟩])
  .ret)
  .skip))
  (.seq (.seq (.ops [⟨(some 108), 110, .mv (.t 15), none, []⟩, ⟨(some 109), 111, .mv (.t 14), none, []⟩, ⟨(some 110), 112, .bin .neq (.t 108) (.t 109), none, []⟩])
  (.cond (.t 110)
  (.seq (.ops [⟨(some 6), 8, .mv (.c (.b false)), none, []⟩])
  .ret)
  .skip))
  (.seq (.ops [⟨(some 6), 8, .mv (.c (.b true)), none, []⟩])
  .ret)))))))))))))))))))))))))))))))))
theorem k9 : compCode Try.prog Try.f9.ntmps Try.f9.body.get! = some c9 := by kernel_rfl
theorem r9 : resTmps Try.prog Try.f9.results.toList = some [.tmp 6] := by kernel_rfl

def fitsT (wi wo : List Int) (t : TableP) : Bool := decide (∀ c ∈ wi, c ∈ t.1) && decide (∀ c ∈ wo, c ∉ t.1)
def matL (wi wo : List Int) (ts : List TableP) : List (Int × Int) := ts.flatMap fun t => if fitsT wi wo t then t.2.1 else []
def matchF (ts : List TableP) (wi wo : List Int) : List (Int × Int) := if 40 < ts.length ∨ 12 < wi.length ∨ 12 < wo.length then [] else matL wi wo ts
theorem matL_at {wi wo : List Int} {ts : List TableP} {t : TableP} {j : Nat} (h : ts[j]? = some t) : matL wi wo (ts.take (j + 1)) = matL wi wo (ts.take j) ++ (if fitsT wi wo t then t.2.1 else []) := by
  rw [take_snoc h]; simp [matL]
def nR (t : TableP) : Nat := t.2.1.length
theorem matL_len (wi wo : List Int) (ts : List TableP) : (matL wi wo ts).length ≤ sumN nR ts := by
  induction ts with
  | nil => simp [matL, sumN]
  | cons t ts ih =>
    have : matL wi wo (t :: ts) = (if fitsT wi wo t then t.2.1 else []) ++ matL wi wo ts := rfl
    rw [this, List.length_append]
    simp only [sumN, nR]
    split
    · omega
    · simp; omega
theorem w100 (l : List Int) (x : Int) (hl : l.length ≤ 2^40) : Contract Try.prog false 100 [.ro, .ro] [.sl false 1 (l.map iT), .i .i64 x] [.i .i64 (idxF l x)] [] := by
  refine mk_contract [] Try.func100 (c := Try.f100.body.get!) (by kernel_rfl) k100 r100 (of_decide_eq_true rfl) fun _ => ?_
  unfold c100; simp
  refine twp_for l.length (fun j s => s.t 0 = .sl false 1 (l.map iT) ∧ s.t 1 = .i .i64 x ∧ s.t 5 = .i .i64 j ∧ x ∉ l.take j ∧ s.H = lk [(1, [])]) [] (by simp) ?_ ?_
  · simp
  · rintro j s hj ⟨q0, q1, q5, hn, qH⟩
    rw [nf_of qH]
    simp [q0, q1, q5]
    refine ⟨fun hlt => ?_, fun hge => ?_⟩
    · have hw : IntKind.i64.wrap (j + 1) = j + 1 := wrap_id (by omega) (by omega)
      obtain ⟨y, hy⟩ := get_some hlt
      simp [hy, hw, q0, q1, q5]
      refine ⟨fun hxy => ?_, fun hxy => ⟨hlt, ?_⟩⟩
      · subst hxy; exact (idxF_at hy hn).symm
      · rw [take_snoc hy]; simp; exact ⟨hn, fun h => hxy h.symm⟩
    · obtain rfl : j = l.length := by omega
      rw [List.take_of_length_le (Nat.le_refl _)] at hn
      simp [idxF, hn]
theorem w105 (c : Int) (t : TableP) (h : t.1.length ≤ 2^40) : Contract Try.prog false 105 [.ro, .ro] [.i .i64 c, .po false [.po false (tbT t)]] [.b (decide (c ∉ t.1))] [] := by
  refine mk_contract [] Try.func105 (c := Try.f105.body.get!) (by kernel_rfl) k105 r105 (of_decide_eq_true rfl) fun _ => ?_
  unfold c105; simp
  refine callW_ms [.ro, .ro] ?_
  simp
  refine callX_of (w106 t.1 c h) (by simp) ?_
  simp
theorem w107 (c : Int) (t : TableP) (h : t.1.length ≤ 2^40) : Contract Try.prog false 107 [.ro, .ro] [.i .i64 c, .po false [.po false (tbT t)]] [.b (decide (c ∈ t.1))] [] := by
  refine mk_contract [] Try.func107 (c := Try.f107.body.get!) (by kernel_rfl) k107 r107 (of_decide_eq_true rfl) fun _ => ?_
  unfold c107; simp
  refine callW_ms [.ro, .ro] ?_
  simp
  refine callX_of (w106 t.1 c h) (by simp) ?_
  simp
theorem w160 (L : List Int) (g : Nat) (t : TableP) (p : Int → Bool) (hg : callable Try.prog g = true) (hC : ∀ y, Contract Try.prog false g [.ro, .ro] [.i .i64 y, .po false [.po false (tbT t)]] [.b (p y)] []) (hL : L.length ≤ 2^40) : Contract Try.prog false 160 [.ro, .ro] [.sl false 1 (L.map iT), .fn g [.po false [.po false (tbT t)]]] [.i .i64 (idxP p L)] [] := by
  refine mk_contract [] Try.func160 (c := Try.f160.body.get!) (by kernel_rfl) k160 r160 (of_decide_eq_true rfl) fun _ => ?_
  unfold c160; simp
  refine twp_for L.length (fun j s => s.t 0 = .sl false 1 (L.map iT) ∧ s.t 1 = .fn g [.po false [.po false (tbT t)]] ∧ s.t 7 = .i .i64 L.length ∧ s.t 8 = .i .i64 j ∧ (∀ y ∈ L.take j, p y = false) ∧ s.H = lk [(1, [])]) [] (by simp) ?_ ?_
  · simp
  · rintro j s hj ⟨q0, q1, q7, q8, hn, qH⟩
    rw [nf_of qH]
    simp [q0, q1, q7, q8]
    refine ⟨fun hlt => ?_, fun hge => ?_⟩
    · have hw : IntKind.i64.wrap (j + 1) = j + 1 := wrap_id (by omega) (by omega)
      obtain ⟨y, hy⟩ := get_some hlt
      simp [hy, hw, q0, q1, q7, q8]
      refine ⟨hg, ?_⟩
      have hC := hC y
      cases hb : p y with
      | true =>
        rw [hb] at hC
        refine callW_ms [.ro, .ro] ?_
        simp
        refine callX_of hC (by simp) ?_
        simp [hw, q0, q1, q7, q8]
        exact (idxP_at hy hb hn).symm
      | false =>
        rw [hb] at hC
        refine callW_ms [.ro, .ro] ?_
        simp
        refine callX_of hC (by simp) ?_
        simp [hw, q0, q1, q7, q8]
        refine ⟨hlt, fun a hab => ?_⟩
        rw [take_snoc hy, List.mem_append, List.mem_singleton] at hab
        rcases hab with hab | rfl
        · exact hn _ hab
        · exact hb
    · obtain rfl : j = L.length := by omega
      rw [List.take_of_length_le (Nat.le_refl _)] at hn
      exact (idxP_none hn).symm
theorem w104 (L : List Int) (g : Nat) (t : TableP) (p : Int → Bool) (hg : callable Try.prog g = true) (hC : ∀ y, Contract Try.prog false g [.ro, .ro] [.i .i64 y, .po false [.po false (tbT t)]] [.b (p y)] []) (hL : L.length ≤ 2^40) : Contract Try.prog false 104 [.ro, .ro] [.sl false 1 (L.map iT), .fn g [.po false [.po false (tbT t)]]] [.b (decide (∃ y ∈ L, p y = true))] [] := by
  refine mk_contract [] Try.func104 (c := Try.f104.body.get!) (by kernel_rfl) k104 r104 (of_decide_eq_true rfl) fun _ => ?_
  unfold c104; simp
  refine callW_ms [.ro, .ro] ?_
  simp
  refine callX_of (w160 L g t p hg hC hL) (by simp) ?_
  simp [idxP_ge]
theorem w53 (w : WorldP) (wi wo : List Int) (h : okW w) (h1 : wi.length ≤ 2^40) (h2 : wo.length ≤ 2^40) (hs : sumN nR w.2.2.1 ≤ 2^36) : Contract Try.prog false 53 [.ro, .ro, .ro] [worldR w.1 w.2.1 w.2.2.1 w.2.2.2, .sl false 1 (wi.map iT), .sl false 1 (wo.map iT)] [.sl true 2 ((matchF w.2.2.1 wi wo).map eT)] [] := by
  refine mk_contract [] Try.func53 (c := Try.f53.body.get!) (by kernel_rfl) k53 r53 (of_decide_eq_true rfl) fun _ => ?_
  obtain ⟨b1, b2, ⟨b3, b4⟩, b5⟩ := h
  obtain ⟨g, f, ts, rs⟩ := w
  simp only at b1 b2 b3 b4 b5 hs ⊢
  unfold c53; simp
  by_cases k1 : 40 < ts.length
  · have k1' : (40 : Int) < ts.length := by omega
    simp [k1', matchF, k1]
  have k1' : ¬ (40 : Int) < ts.length := by omega
  by_cases k2 : 12 < wi.length
  · have k2' : (12 : Int) < wi.length := by omega
    simp [k1', k2', matchF, k2]
  have k2' : ¬ (12 : Int) < wi.length := by omega
  by_cases k3 : 12 < wo.length
  · have k3' : (12 : Int) < wo.length := by omega
    simp [k1', k2', k3', matchF, k3]
  have k3' : ¬ (12 : Int) < wo.length := by omega
  have hM : matchF ts wi wo = matL wi wo ts := by unfold matchF; rw [if_neg (by omega)]
  rw [hM]
  simp [k1', k2', k3']
  refine twp_forR ts.length (fun j s => s.t 1 = .sl false 1 (wi.map iT) ∧ s.t 2 = .sl false 1 (wo.map iT) ∧ s.t 3 = .pt [(5, 0)] 0 0 ∧ s.t 7 = .rf [(55, 0)] 0 (matL wi wo (ts.take j)).length ∧ s.t 29 = .i .i64 ts.length ∧ s.t 30 = .i .i64 j ∧ s.H = lk [(1, []), (5, [.po true [.sl false 1 (g.map iT), .sl false 1 (f.map iT), .sl false 3 (ts.map tbT), .sl false 4 (rs.map vT)]]), (55, [.sl true 2 ((matL wi wo (ts.take j)).map eT)])]) [11] [(13, 55)] (by simp) (by simp) ?_ ?_
  · simp [matL]
  · rintro j s hj ⟨q1, q2, q3, q7, q29, q30, qH⟩
    rw [nf_of qH]
    simp [q1, q2, q3, q7, q29, q30]
    refine ⟨fun hlt => ?_, fun hge => ?_⟩
    · have hw : IntKind.i64.wrap (j + 1) = j + 1 := wrap_id (by omega) (by omega)
      obtain ⟨t, ht⟩ := get_some hlt
      have mt := List.mem_of_getElem? ht
      have hat := @matL_at wi wo ts t j ht
      have hlen := matL_len wi wo (ts.take (j + 1))
      have hlen2 := sumN_take nR ts (j + 1)
      have ht1 : t.1.length ≤ 2^40 := by have := (b4 t mt).1; omega
      simp [ht, hw, q1, q2, q3, q7, q29, q30]
      by_cases p1 : ∃ y ∈ wi, (fun c => decide (c ∉ t.1)) y = true
      · have hfit : fitsT wi wo t = false := by
          obtain ⟨y, y1, y2⟩ := p1
          have : ¬ ∀ c ∈ wi, c ∈ t.1 := fun h => by simp at y2; exact y2 (h y y1)
          unfold fitsT; rw [decide_eq_false this]; rfl
        rw [hfit] at hat
        simp at hat
        refine callW_ms [.ro, .ro] ?_
        simp
        refine callX_of ((w104 wi 105 t (fun c => decide (c ∉ t.1)) (by kernel_rfl) (fun c => w105 c t ht1) h1).t p1) (by simp) ?_
        simp [hw, q1, q2, q3, q7, q29, q30, hat]
        exact hlt
      · by_cases p2 : ∃ y ∈ wo, (fun c => decide (c ∈ t.1)) y = true
        · have hfit : fitsT wi wo t = false := by
            obtain ⟨y, y1, y2⟩ := p2
            have : ¬ ∀ c ∈ wo, c ∉ t.1 := fun h => h y y1 (by simpa using y2)
            unfold fitsT; rw [decide_eq_false this, Bool.and_false]
          rw [hfit] at hat
          simp at hat
          refine callW_ms [.ro, .ro] ?_
          simp
          refine callX_of ((w104 wi 105 t (fun c => decide (c ∉ t.1)) (by kernel_rfl) (fun c => w105 c t ht1) h1).f p1) (by simp) ?_
          simp [q1, q2, q3, q7, q29, q30]
          refine callW_ms [.ro, .ro] ?_
          simp
          refine callX_of ((w104 wo 107 t (fun c => decide (c ∈ t.1)) (by kernel_rfl) (fun c => w107 c t ht1) h2).t p2) (by simp) ?_
          simp [hw, q1, q2, q3, q7, q29, q30, hat]
          exact hlt
        · have hfit : fitsT wi wo t = true := by
            have q1 : ∀ c ∈ wi, c ∈ t.1 := fun c hc => Decidable.byContradiction fun h => p1 ⟨c, hc, by simpa using h⟩
            have q2 : ∀ c ∈ wo, c ∉ t.1 := fun c hc h => p2 ⟨c, hc, by simpa using h⟩
            unfold fitsT; rw [decide_eq_true q1, decide_eq_true q2]; rfl
          rw [hfit] at hat
          simp at hat
          have hl : (matL wi wo (ts.take (j + 1))).length = (matL wi wo (ts.take j)).length + t.2.1.length := by rw [hat]; simp
          refine callW_ms [.ro, .ro] ?_
          simp
          refine callX_of ((w104 wi 105 t (fun c => decide (c ∉ t.1)) (by kernel_rfl) (fun c => w105 c t ht1) h1).f p1) (by simp) ?_
          simp [q1, q2, q3, q7, q29, q30]
          refine callW_ms [.ro, .ro] ?_
          simp
          refine callX_of ((w104 wo 107 t (fun c => decide (c ∈ t.1)) (by kernel_rfl) (fun c => w107 c t ht1) h2).f p2) (by simp) ?_
          simp [hw, q1, q2, q3, q7, q29, q30, hat]
          exact ⟨by omega, hlt⟩
    · obtain rfl : j = ts.length := by omega
      simp [q1, q2, q3, q7, q29, q30]
theorem w50 (w : WorldP) (wi wo : List Int) (h : okW w) (h1 : wi.length ≤ 2^40) (h2 : wo.length ≤ 2^40) (hs : sumN nR w.2.2.1 ≤ 2^36) : Contract Try.prog false 50 [.ro, .ro, .ro] [worldR w.1 w.2.1 w.2.2.1 w.2.2.2, .sl false 1 (wi.map iT), .sl false 1 (wo.map iT)] [.sl true 2 ((matchF w.2.2.1 wi wo).map eT)] [] := by
  refine mk_contract [] Try.func50 (c := Try.f50.body.get!) (by kernel_rfl) k50 r50 (of_decide_eq_true rfl) fun _ => ?_
  obtain ⟨b1, b2, ⟨b3, b4⟩, b5⟩ := h
  obtain ⟨g, f, ts, rs⟩ := w
  simp only at b1 b2 b3 b4 b5 hs ⊢
  unfold c50; simp
  by_cases k1 : 40 < ts.length
  · have k1' : (40 : Int) < ts.length := by omega
    simp [k1', matchF, k1]
  have k1' : ¬ (40 : Int) < ts.length := by omega
  by_cases k2 : 12 < wi.length
  · have k2' : (12 : Int) < wi.length := by omega
    simp [k1', k2', matchF, k2]
  have k2' : ¬ (12 : Int) < wi.length := by omega
  by_cases k3 : 12 < wo.length
  · have k3' : (12 : Int) < wo.length := by omega
    simp [k1', k2', k3', matchF, k3]
  have k3' : ¬ (12 : Int) < wo.length := by omega
  have hM : matchF ts wi wo = matL wi wo ts := by unfold matchF; rw [if_neg (by omega)]
  rw [hM]
  simp [k1', k2', k3']
  refine twp_forR ts.length (fun j s => s.t 1 = .sl false 1 (wi.map iT) ∧ s.t 2 = .sl false 1 (wo.map iT) ∧ s.t 3 = .pt [(5, 0)] 0 0 ∧ s.t 7 = .rf [(87, 0)] 0 (matL wi wo (ts.take j)).length ∧ s.t 8 = .i .i64 j ∧ s.H = lk [(1, []), (5, [.po true [.sl false 1 (g.map iT), .sl false 1 (f.map iT), .sl false 3 (ts.map tbT), .sl false 4 (rs.map vT)]]), (87, [.sl true 2 ((matL wi wo (ts.take j)).map eT)])]) [] [(14, 87)] (by simp) (by simp) ?_ ?_
  · simp [matL]
  · rintro j s hj ⟨q1, q2, q3, q7, q8, qH⟩
    rw [nf_of qH]
    simp [q1, q2, q3, q7, q8]
    refine ⟨fun hlt => ?_, fun hge => ?_⟩
    · have hw : IntKind.i64.wrap (j + 1) = j + 1 := wrap_id (by omega) (by omega)
      obtain ⟨t, ht⟩ := get_some hlt
      have mt := List.mem_of_getElem? ht
      have hat := @matL_at wi wo ts t j ht
      have hlen := matL_len wi wo (ts.take (j + 1))
      have hlen2 := sumN_take nR ts (j + 1)
      have ht1 : t.1.length ≤ 2^40 := by have := (b4 t mt).1; omega
      refine twp_post (fun sz => sz.t 1 = .sl false 1 (wi.map iT) ∧ sz.t 2 = .sl false 1 (wo.map iT) ∧ sz.t 3 = .pt [(5, 0)] 0 0 ∧ sz.t 7 = .rf [(87, 0)] 0 (matL wi wo (ts.take j)).length ∧ sz.t 8 = .i .i64 j ∧ sz.t 9 = .b (decide (∀ c ∈ wi, c ∈ t.1)) ∧ sz.H = lk [(1, []), (5, [.po true [.sl false 1 (g.map iT), .sl false 1 (f.map iT), .sl false 3 (ts.map tbT), .sl false 4 (rs.map vT)]]), (87, [.sl true 2 ((matL wi wo (ts.take j)).map eT)])]) ?_ ?_
      · refine twp_for wi.length (fun i s2 => s2.t 1 = .sl false 1 (wi.map iT) ∧ s2.t 2 = .sl false 1 (wo.map iT) ∧ s2.t 3 = .pt [(5, 0)] 0 0 ∧ s2.t 7 = .rf [(87, 0)] 0 (matL wi wo (ts.take j)).length ∧ s2.t 8 = .i .i64 j ∧ s2.t 9 = .b (decide (∀ c ∈ wi.take i, c ∈ t.1)) ∧ s2.t 10 = .i .i64 i ∧ s2.H = lk [(1, []), (5, [.po true [.sl false 1 (g.map iT), .sl false 1 (f.map iT), .sl false 3 (ts.map tbT), .sl false 4 (rs.map vT)]]), (87, [.sl true 2 ((matL wi wo (ts.take j)).map eT)])]) [] (by simp) ?_ ?_
        · simp [q1, q2, q3, q7, q8]
        · rintro i s2 hi ⟨p1, p2, p3, p7, p8, p9, p10, pH⟩
          rw [nf_of pH]
          simp [p1, p2, p3, p7, p8, p9, p10]
          cases hb : decide (i < wi.length)
          rotate_left
          · have hwi : IntKind.i64.wrap (i + 1) = i + 1 := wrap_id (by omega) (by omega)
            have hlt2 : i < wi.length := of_decide_eq_true hb
            obtain ⟨c, hc⟩ := get_some hlt2
            by_cases hf : ∀ c ∈ wi.take i, c ∈ t.1
            · rw [decide_eq_true hf] at p9
              have e9 : (∀ c ∈ wi.take (i + 1), c ∈ t.1) ↔ 0 ≤ idxF t.1 c := by
                rw [idxF_ge, take_snoc hc]
                exact ⟨fun h => h c (by simp), fun h d hd => by rcases List.mem_append.1 hd with hd | hd; exact hf d hd; simp at hd; subst hd; exact h⟩
              simp [ht, hc, p1, p2, p3, p7, p8, p9, p10]
              refine callW_ms [.ro, .ro] ?_
              simp
              refine callX_of (w100 t.1 c ht1) (by simp) ?_
              simp [hwi, p1, p2, p3, p7, p8, p9, p10]
              exact ⟨hlt2, e9.symm⟩
            · rw [decide_eq_false hf] at p9
              simp [p1, p2, p3, p7, p8, p9, p10]
              exact Decidable.byContradiction fun h => hf fun c hc => Decidable.byContradiction fun h2 => h ⟨c, List.mem_of_mem_take hc, h2⟩
          · have hge : ¬ i < wi.length := of_decide_eq_false hb
            obtain rfl : i = wi.length := by omega
            simp [p1, p2, p3, p7, p8, p9, p10]
      · rintro sz ⟨z1, z2, z3, z7, z8, z9, zH⟩
        rw [nf_of zH]
        simp [z1, z2, z3, z7, z8, z9]
        refine twp_post (fun sy => sy.t 3 = .pt [(5, 0)] 0 0 ∧ sy.t 1 = .sl false 1 (wi.map iT) ∧ sy.t 2 = .sl false 1 (wo.map iT) ∧ sy.t 7 = .rf [(87, 0)] 0 (matL wi wo (ts.take j)).length ∧ sy.t 8 = .i .i64 j ∧ sy.t 9 = .b (fitsT wi wo t) ∧ sy.H = lk [(1, []), (5, [.po true [.sl false 1 (g.map iT), .sl false 1 (f.map iT), .sl false 3 (ts.map tbT), .sl false 4 (rs.map vT)]]), (87, [.sl true 2 ((matL wi wo (ts.take j)).map eT)])]) ?_ ?_
        · refine twp_for wo.length (fun i s2 => s2.t 1 = .sl false 1 (wi.map iT) ∧ s2.t 2 = .sl false 1 (wo.map iT) ∧ s2.t 3 = .pt [(5, 0)] 0 0 ∧ s2.t 7 = .rf [(87, 0)] 0 (matL wi wo (ts.take j)).length ∧ s2.t 8 = .i .i64 j ∧ s2.t 9 = .b (decide (∀ c ∈ wi, c ∈ t.1) && decide (∀ c ∈ wo.take i, c ∉ t.1)) ∧ s2.t 11 = .i .i64 i ∧ s2.H = lk [(1, []), (5, [.po true [.sl false 1 (g.map iT), .sl false 1 (f.map iT), .sl false 3 (ts.map tbT), .sl false 4 (rs.map vT)]]), (87, [.sl true 2 ((matL wi wo (ts.take j)).map eT)])]) [] (by simp) ?_ ?_
          · simp [z1, z2, z3, z7, z8, z9]
          · rintro i s2 hi ⟨p1, p2, p3, p7, p8, p9, p11, pH⟩
            rw [nf_of pH]
            simp [p1, p2, p3, p7, p8, p9, p11]
            cases hb : decide (i < wo.length)
            rotate_left
            · have hwi : IntKind.i64.wrap (i + 1) = i + 1 := wrap_id (by omega) (by omega)
              have hlt2 : i < wo.length := of_decide_eq_true hb
              obtain ⟨c, hc⟩ := get_some hlt2
              by_cases hf : ∀ c ∈ wi, c ∈ t.1
              · by_cases hf2 : ∀ c ∈ wo.take i, c ∉ t.1
                · rw [decide_eq_true hf, decide_eq_true hf2, Bool.and_true] at p9
                  have e9 : (∀ c ∈ wo.take (i + 1), c ∉ t.1) ↔ idxF t.1 c < 0 := by
                    have := idxF_ge t.1 c
                    rw [take_snoc hc]
                    refine ⟨fun h => ?_, fun h d hd => ?_⟩
                    · have h1 := h c (by simp)
                      rcases Int.lt_or_le (idxF t.1 c) 0 with h2 | h2
                      · exact h2
                      · exact absurd (this.1 h2) h1
                    · rcases List.mem_append.1 hd with hd | hd
                      · exact hf2 d hd
                      · simp at hd; subst hd; intro h3; have := this.2 h3; omega
                  have e8 : decide (∀ c ∈ wi, c ∈ t.1) = true := decide_eq_true hf
                  simp [ht, hc, p1, p2, p3, p7, p8, p9, p11]
                  refine callW_ms [.ro, .ro] ?_
                  simp
                  refine callX_of (w100 t.1 c ht1) (by simp) ?_
                  simp [hwi, p1, p2, p3, p7, p8, p9, p11]
                  refine ⟨hlt2, ?_⟩
                  rw [e8, Bool.true_and]
                  exact decide_eq_decide.2 e9.symm
                · have h9 : fitsT wi wo t = false := by
                    have : ¬ ∀ c ∈ wo, c ∉ t.1 := fun h => hf2 fun c hc => h c (List.mem_of_mem_take hc)
                    unfold fitsT; rw [decide_eq_false this, Bool.and_false]
                  rw [decide_eq_false hf2, Bool.and_false] at p9
                  simp [p1, p2, p3, p7, p8, p9, p11, h9]
              · have h9 : fitsT wi wo t = false := by unfold fitsT; rw [decide_eq_false hf]; rfl
                rw [decide_eq_false hf, Bool.false_and] at p9
                simp [p1, p2, p3, p7, p8, p9, p11, h9]
            · have hge : ¬ i < wo.length := of_decide_eq_false hb
              obtain rfl : i = wo.length := by omega
              rw [List.take_of_length_le (Nat.le_refl _)] at p9
              simp [p1, p2, p3, p7, p8, p9, p11, fitsT]
        · rintro sy ⟨y3, y1, y2, y7, y8, y9, yH⟩
          rw [nf_of yH]
          simp [y3, y1, y2, y7, y8, y9]
          cases hft : fitsT wi wo t with
          | true =>
            rw [hft] at hat
            simp at hat
            have hl : (matL wi wo (ts.take (j + 1))).length = (matL wi wo (ts.take j)).length + t.2.1.length := by rw [hat]; simp
            simp [y1, y2, y3, y7, y8, y9, ht, hw, hat]
            exact ⟨by omega, hlt⟩
          | false =>
            rw [hft] at hat
            simp at hat
            simp [y1, y2, y3, y7, y8, y9, ht, hw, hat]
            exact hlt
    · obtain rfl : j = ts.length := by omega
      simp [q1, q2, q3, q7, q8]
theorem w9 (w : WorldP) (wi wo : List Int) (hb : bdW w) (h1 : wi.length < 2^63) (h2 : wo.length < 2^63) : Contract Try.prog false 9 [.ro, .ro, .ro] [worldR w.1 w.2.1 w.2.2.1 w.2.2.2, .sl false 1 (wi.map iT), .sl false 1 (wo.map iT)] [.b true] [] := by
  refine mk_contract [] Try.func9 (c := Try.f9.body.get!) (by kernel_rfl) k9 r9 (of_decide_eq_true rfl) fun _ => ?_
  unfold c9; simp
  intro g1 g2
  refine callW_ms [.ro, .ro] ?_
  simp
  refine callX_of (w49 w _ hb (by omega) (by omega)) (by simp) ?_
  simp
  intro h
  obtain ⟨hk, hc⟩ := szW_ok (by omega) (by omega) (by omega : ¬ szWF w 1048576 < 0)
  have hs : sumN nR w.2.2.1 ≤ 1048576 := by
    have h1 := sumN_le (c := nR) (d := cT) (fun t => by unfold nR cT; omega) w.2.2.1
    unfold cW at hc; omega
  have hn := nW_le w
  have hml : (matchF w.2.2.1 wi wo).length ≤ 1048576 := by
    unfold matchF; split
    · simp
    · exact Nat.le_trans (matL_len _ _ _) hs
  refine callW_ms [.ro] ?_
  simp
  refine callX_of (w51 w hk) (by simp) ?_
  simp
  refine callW_ms [.ro] ?_
  simp
  refine callX_of (w52 wi (by omega)) (by simp) ?_
  simp
  refine callW_ms [.ro] ?_
  simp
  refine callX_of (w52 wo (by omega)) (by simp) ?_
  simp
  refine callW_ms [.ro, .ro, .ro] ?_
  simp
  refine callX_of (w50 w wi wo hk (by omega) (by omega) (by omega)) (by simp) ?_
  simp
  refine callW_ms [.ro] ?_
  simp
  refine callX_of (w51 w hk) (by simp) ?_
  simp
  refine callW_ms [.ro] ?_
  simp
  refine callX_of (w52 wi (by omega)) (by simp) ?_
  simp
  refine callW_ms [.ro] ?_
  simp
  refine callX_of (w52 wo (by omega)) (by simp) ?_
  simp
  refine callW_ms [.ro, .ro, .ro] ?_
  simp
  refine callX_of (w53 w wi wo hk (by omega) (by omega) (by omega)) (by simp) ?_
  simp
  have hI := w53 w wi wo hk (by omega) (by omega) (by omega)
  generalize matchF w.2.2.1 wi wo = m at *
  refine callW_ms [.ro, .ro] ?_
  simp
  refine callX_of (w54 m m (by omega) (by omega)) (by simp) ?_
  simp
  refine callW_ms [.ro] ?_
  simp
  refine callX_of (w51 w hk) (by simp) ?_
  simp
  refine callW_ms [.ro, .ro] ?_
  simp
  refine callX_of (w55 w hk) (by simp) ?_
  simp
  refine callW_ms [.ro] ?_
  simp
  refine callX_of (w52 wi (by omega)) (by simp) ?_
  simp
  refine callW_ms [.ro, .ro] ?_
  simp
  refine callX_of (w31 wi wi (by omega) (by omega)) (by simp) ?_
  simp
  refine callW_ms [.ro] ?_
  simp
  refine callX_of (w52 wo (by omega)) (by simp) ?_
  simp
  refine callW_ms [.ro, .ro] ?_
  simp
  refine callX_of (w31 wo wo (by omega) (by omega)) (by simp) ?_
  simp
  refine callW_ms [.own, .ro] ?_
  simp
  refine callX_of (w56 w 1 hk (by omega) (by omega)) (by simp) ?_
  simp
  refine callW_ms [.own, .ro] ?_
  simp
  refine callX_of (w34 wi (1 + nW w) (by omega) (by omega) (by omega)) (by simp) ?_
  simp
  have hk1 : ¬ (1 + (nW w : Int) + wi.length + wo.length < 0) := by omega
  refine callW_ms [.own, .ro] ?_
  simp
  refine callX_of (w34 wo (1 + nW w + wi.length) (by omega) (by omega) (by omega)) (by simp) ?_
  simp [hk1]
  refine callW_ms [.ro, .ro] ?_
  simp
  refine callX_of (w54 m m (by omega) (by omega)) (by simp) ?_
  simp
  refine callW_ms [.own, .ro] ?_
  simp
  refine callX_of (w57 m 1 (by omega) (by omega) (by omega)) (by simp) ?_
  simp
  refine callW_ms [.ro, .ro] ?_
  simp
  refine callX_of (w58 m.length 1 (by omega) (by omega) (by omega)) (by simp) ?_
  simp
  refine ⟨by omega, fun _ => ?_⟩
  refine callW_ms [.ro] ?_
  simp
  refine callX_of (w51 w hk) (by simp) ?_
  simp
  refine callW_ms [.ro] ?_
  simp
  refine callX_of (w52 wi (by omega)) (by simp) ?_
  simp
  refine callW_ms [.ro] ?_
  simp
  refine callX_of (w52 wo (by omega)) (by simp) ?_
  simp
  refine callW_ms [.ro, .ro, .ro] ?_
  simp
  refine callX_of hI (by simp) ?_
  simp
  refine callW_ms [.ro, .ro] ?_
  simp
  refine callX_of (w54 m m (by omega) (by omega)) (by simp) ?_
  simp
  refine callW_ms [.ro, .ro] ?_
  simp
  refine callX_of (w58 m.length 1 (by omega) (by omega) (by omega)) (by simp) ?_
  simp
  omega
end Go.Proofs.YtmedelmfkciblaaT
