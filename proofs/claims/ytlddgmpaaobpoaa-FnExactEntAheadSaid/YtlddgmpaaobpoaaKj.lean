/- EntTake, EntAhead (late stores). -/
import Derived.Test.YtlddgmpaaobpoaaKe
namespace Go.Proofs.YtlddgmpaaobpoaaT
set_option linter.unusedVariables false
set_option linter.unusedSimpArgs false
open Go

/- spec.l2Take -/
def c62 : TCode := (.seq (.ops [⟨(some 1), 3, .box 2 (.t 0), none, []⟩, ⟨(some 2), 4, .box 2 (.c (.ag [(.sl true 1 []), (.sl true 1 [])])), none, []⟩, ⟨(some 3), 5, .box 2 (.c (.ag [(.i .i64 0), (.i .i64 0)])), none, []⟩, ⟨(some 4), 6, .mv (.c (.i .i64 0)), none, []⟩])
  (.seq (.seq (.ops [⟨(some 7), 9, .faddr 1 1 (.t 1), none, []⟩, ⟨(some 8), 10, .load false 1 (.t 7), none, []⟩, ⟨(some 9), 11, .len false (.t 8), none, []⟩, ⟨(some 5), 7, .mv (.t 9), none, []⟩])
  (.seq (.ops [⟨(some 10), 12, .mv (.t 5), none, []⟩, ⟨(some 11), 13, .bin .gtr (.t 10) (.c (.i .i64 0)), none, []⟩])
  (.cond (.t 11)
  (.seq (.ops [⟨(some 12), 14, .faddr 1 1 (.t 1), none, []⟩, ⟨(some 13), 15, .load false 1 (.t 12), none, []⟩, ⟨(some 14), 16, .mv (.t 5), none, []⟩, ⟨(some 15), 17, .bin .sub (.t 14) (.c (.i .i64 1)), none, []⟩, ⟨(some 16), 18, .iaddr 1 (.t 13) (.t 15), none, []⟩, ⟨(some 17), 19, .load false 1 (.t 16), none, []⟩, ⟨(some 6), 8, .mv (.t 17), none, []⟩])
  (.seq (.ops [⟨(some 18), 20, .bslice 1 0 [(.i .i64 0)] [], none, []⟩, ⟨(some 19), 21, .faddr 1 1 (.t 1), none, []⟩, ⟨(some 20), 22, .load false 1 (.t 19), none, []⟩, ⟨(some 21), 23, .mv (.t 5), none, []⟩, ⟨(some 22), 24, .bin .sub (.t 21) (.c (.i .i64 1)), none, []⟩, ⟨(some 23), 25, .slice false 1 (.t 20) none (some (.t 22)), none, []⟩, ⟨(some 24), 26, .app 1 8 (.t 18) (.t 23), none, []⟩, ⟨(some 25), 27, .faddr 1 1 (.t 1), none, []⟩, ⟨none, 1004008, .store 1 (.t 25) (.t 24), none, []⟩])
  (.seq (.draw [⟨(some 26), 28, .load true 2 (.t 1), none, []⟩, ⟨(some 27), 29, .mv (.t 6), none, []⟩, ⟨(some 28), 30, .faddr 0 1 (.t 1), none, []⟩, ⟨(some 29), 31, .load false 1 (.t 28), none, []⟩, ⟨(some 30), 32, .mv (.t 6), none, []⟩, ⟨(some 31), 33, .iaddr 1 (.t 29) (.t 30), none, []⟩, ⟨(some 32), 34, .load false 1 (.t 31), none, []⟩, ⟨(some 33), 35, .build [(.i .i64 0), (.i .i64 0)] [(0, 1, (.t 27)), (1, 1, (.t 32))], none, []⟩, ⟨none, 1005008, .store 2 (.t 2) (.t 26), none, [1000000, 1, 2, 3, 4, 5, 6, 7]⟩, ⟨none, 1005009, .store 2 (.t 3) (.t 33), none, []⟩, ⟨(some 4), 6, .mv (.c (.i .i64 0)), none, []⟩])
  .ret)))
  .skip)))
  (.seq (.seq (.ops [⟨(some 34), 36, .faddr 0 1 (.t 1), none, []⟩, ⟨(some 35), 37, .load false 1 (.t 34), none, []⟩, ⟨(some 36), 38, .len false (.t 35), none, []⟩, ⟨(some 37), 39, .bin .geq (.t 36) (.c (.i .i64 2000)), none, []⟩])
  (.cond (.t 37)
  (.seq (.ops [⟨(some 38), 40, .load true 2 (.t 1), none, []⟩, ⟨(some 39), 41, .build [(.i .i64 0), (.i .i64 0)] [], none, []⟩, ⟨none, 1007002, .store 2 (.t 2) (.t 38), none, []⟩, ⟨none, 1007003, .store 2 (.t 3) (.t 39), none, []⟩, ⟨(some 4), 6, .mv (.c (.i .i64 3)), none, []⟩])
  .ret)
  .skip))
  (.seq (.ops [⟨(some 40), 42, .faddr 0 1 (.t 1), none, []⟩, ⟨(some 41), 43, .load false 1 (.t 40), none, []⟩, ⟨(some 42), 44, .bslice 1 1 [(.i .i64 0)] [(0, (.c (.i .i64 0)))], none, []⟩, ⟨(some 43), 45, .app 1 8 (.t 41) (.t 42), none, []⟩, ⟨(some 44), 46, .faddr 0 1 (.t 1), none, []⟩, ⟨none, 1008005, .store 1 (.t 44) (.t 43), none, []⟩])
  (.seq (.draw [⟨(some 45), 47, .load true 2 (.t 1), none, []⟩, ⟨(some 46), 48, .faddr 0 1 (.t 1), none, []⟩, ⟨(some 47), 49, .load false 1 (.t 46), none, []⟩, ⟨(some 48), 50, .len false (.t 47), none, []⟩, ⟨(some 49), 51, .bin .sub (.t 48) (.c (.i .i64 1)), none, []⟩, ⟨(some 50), 52, .build [(.i .i64 0), (.i .i64 0)] [(0, 1, (.t 49))], none, []⟩, ⟨none, 1009006, .store 2 (.t 2) (.t 45), none, [1000000, 1, 2, 3, 4, 5]⟩, ⟨none, 1009007, .store 2 (.t 3) (.t 50), none, []⟩, ⟨(some 4), 6, .mv (.c (.i .i64 0)), none, []⟩])
  .ret)))))
theorem k62 : compCode Try.prog Try.f62.ntmps Try.f62.body.get! = some c62 := by kernel_rfl
theorem r62 : resTmps Try.prog Try.f62.results.toList = some [.cell 2 true 2, .cell 3 true 2, .tmp 4] := by kernel_rfl
/- (*impl.Ents).take -/
def c64 : TCode := (.seq (.ops [⟨(some 2), 4, .box 2 (.c (.ag [(.i .i64 0), (.i .i64 0)])), none, []⟩, ⟨(some 3), 5, .mv (.c (.i .i64 0)), none, []⟩])
  (.seq (.seq (.ops [⟨(some 6), 8, .mv (.t 0), none, []⟩, ⟨(some 7), 9, .nilck (.t 6), none, []⟩, ⟨(some 8), 10, .faddr 1 1 (.t 7), none, []⟩, ⟨(some 9), 11, .load false 1 (.t 8), none, []⟩, ⟨(some 10), 12, .len false (.t 9), none, []⟩, ⟨(some 4), 6, .mv (.t 10), none, []⟩])
  (.seq (.ops [⟨(some 11), 13, .mv (.t 4), none, []⟩, ⟨(some 12), 14, .bin .gtr (.t 11) (.c (.i .i64 0)), none, []⟩])
  (.cond (.t 12)
  (.seq (.ops [⟨(some 13), 15, .mv (.t 0), none, []⟩, ⟨(some 14), 16, .nilck (.t 13), none, []⟩, ⟨(some 15), 17, .faddr 1 1 (.t 14), none, []⟩, ⟨(some 16), 18, .load false 1 (.t 15), none, []⟩, ⟨(some 17), 19, .mv (.t 4), none, []⟩, ⟨(some 18), 20, .bin .sub (.t 17) (.c (.i .i64 1)), none, []⟩, ⟨(some 19), 21, .iaddr 1 (.t 16) (.t 18), none, []⟩, ⟨(some 20), 22, .load false 1 (.t 19), none, []⟩, ⟨(some 5), 7, .mv (.t 20), none, []⟩])
  (.seq (.ops [⟨(some 21), 23, .mv (.t 0), none, []⟩, ⟨(some 22), 24, .mv (.t 0), none, []⟩, ⟨(some 23), 25, .nilck (.t 22), none, []⟩, ⟨(some 24), 26, .faddr 1 1 (.t 23), none, []⟩, ⟨(some 25), 27, .load false 1 (.t 24), none, []⟩, ⟨(some 26), 28, .mv (.t 4), none, []⟩, ⟨(some 27), 29, .bin .sub (.t 26) (.c (.i .i64 1)), none, []⟩, ⟨(some 28), 30, .slice false 1 (.t 25) none (some (.t 27)), none, []⟩, ⟨(some 29), 31, .nilck (.t 21), none, []⟩, ⟨(some 30), 32, .faddr 1 1 (.t 29), none, []⟩, ⟨none, 1004010, .store 1 (.t 30) (.t 28), none, []⟩])
  (.seq (.ops [⟨(some 31), 33, .mv (.t 5), none, []⟩, ⟨(some 32), 34, .mv (.t 0), none, []⟩, ⟨(some 33), 35, .nilck (.t 32), none, []⟩, ⟨(some 34), 36, .faddr 0 1 (.t 33), none, []⟩, ⟨(some 35), 37, .load false 1 (.t 34), none, []⟩, ⟨(some 36), 38, .mv (.t 5), none, []⟩, ⟨(some 37), 39, .iaddr 1 (.t 35) (.t 36), none, []⟩, ⟨(some 38), 40, .load false 1 (.t 37), none, []⟩, ⟨(some 39), 41, .build [(.i .i64 0), (.i .i64 0)] [(0, 1, (.t 31)), (1, 1, (.t 38))], none, []⟩, ⟨none, 1005009, .store 2 (.t 2) (.t 39), none, []⟩, ⟨(some 3), 5, .mv (.c (.i .i64 0)), none, []⟩])
  .ret)))
  .skip)))
  (.seq (.seq (.ops [⟨(some 40), 42, .mv (.t 0), none, []⟩, ⟨(some 41), 43, .nilck (.t 40), none, []⟩, ⟨(some 42), 44, .faddr 0 1 (.t 41), none, []⟩, ⟨(some 43), 45, .load false 1 (.t 42), none, []⟩, ⟨(some 44), 46, .len false (.t 43), none, []⟩, ⟨(some 45), 47, .bin .eql (.t 44) (.c (.i .i64 2000)), none, []⟩])
  (.cond (.t 45)
  (.seq (.ops [⟨(some 46), 48, .build [(.i .i64 0), (.i .i64 0)] [], none, []⟩, ⟨none, 1007001, .store 2 (.t 2) (.t 46), none, []⟩, ⟨(some 3), 5, .mv (.c (.i .i64 3)), none, []⟩])
  .ret)
  .skip))
  (.seq (.ops [⟨(some 47), 49, .mv (.t 0), none, []⟩, ⟨(some 48), 50, .mv (.t 0), none, []⟩, ⟨(some 49), 51, .nilck (.t 48), none, []⟩, ⟨(some 50), 52, .faddr 0 1 (.t 49), none, []⟩, ⟨(some 51), 53, .load false 1 (.t 50), none, []⟩, ⟨(some 52), 54, .bslice 1 1 [(.i .i64 0)] [(0, (.c (.i .i64 0)))], none, []⟩, ⟨(some 53), 55, .app 1 8 (.t 51) (.t 52), none, []⟩, ⟨(some 54), 56, .nilck (.t 47), none, []⟩, ⟨(some 55), 57, .faddr 0 1 (.t 54), none, []⟩, ⟨none, 1008009, .store 1 (.t 55) (.t 53), none, []⟩])
  (.seq (.ops [⟨(some 56), 58, .mv (.t 0), none, []⟩, ⟨(some 57), 59, .nilck (.t 56), none, []⟩, ⟨(some 58), 60, .faddr 0 1 (.t 57), none, []⟩, ⟨(some 59), 61, .load false 1 (.t 58), none, []⟩, ⟨(some 60), 62, .len false (.t 59), none, []⟩, ⟨(some 61), 63, .bin .sub (.t 60) (.c (.i .i64 1)), none, []⟩, ⟨(some 62), 64, .build [(.i .i64 0), (.i .i64 0)] [(0, 1, (.t 61))], none, []⟩, ⟨none, 1009007, .store 2 (.t 2) (.t 62), none, []⟩, ⟨(some 3), 5, .mv (.c (.i .i64 0)), none, []⟩])
  .ret)))))
theorem k64 : compCode Try.prog Try.f64.ntmps Try.f64.body.get! = some c64 := by kernel_rfl
theorem r64 : resTmps Try.prog Try.f64.results.toList = some [.cell 2 true 2, .tmp 3] := by kernel_rfl
/- spec.EntTake -/
def c27 : TCode := (.seq (.ops [⟨(some 1), 3, .box 2 (.t 0), none, []⟩, ⟨(some 2), 4, .box 2 (.c (.ag [(.sl true 1 []), (.sl true 1 [])])), none, []⟩, ⟨(some 3), 5, .box 2 (.c (.ag [(.i .i64 0), (.i .i64 0)])), none, []⟩, ⟨(some 4), 6, .mv (.c (.i .i64 0)), none, []⟩])
  (.seq (.ops [⟨(some 5), 7, .load true 2 (.t 1), none, []⟩, ⟨(some 6), 8, .call 61 [((.t 5), 0)], none, []⟩, ⟨none, 1001002, .store 2 (.t 1) (.t 6), none, []⟩])
  (.seq (.seq (.ops [⟨(some 7), 9, .load true 2 (.t 1), none, []⟩, ⟨(some 8), 10, .call 20 [((.t 7), 0)], none, []⟩, ⟨(some 9), 11, .un .not (.t 8), none, []⟩])
  (.cond (.t 9)
  (.seq (.ops [⟨(some 10), 12, .load true 2 (.t 1), none, []⟩, ⟨(some 11), 13, .build [(.i .i64 0), (.i .i64 0)] [], none, []⟩, ⟨none, 1003002, .store 2 (.t 2) (.t 10), none, []⟩, ⟨none, 1003003, .store 2 (.t 3) (.t 11), none, []⟩, ⟨(some 4), 6, .mv (.c (.i .i64 1)), none, []⟩])
  .ret)
  .skip))
  (.seq (.ops [⟨(some 12), 14, .load true 2 (.t 1), none, []⟩, ⟨(some 13), 15, .call 62 [((.t 12), 0)], none, []⟩, ⟨(some 14), 16, .ext 0 (.t 13), none, []⟩, ⟨(some 15), 17, .ext 1 (.t 13), none, []⟩, ⟨(some 16), 18, .ext 2 (.t 13), none, []⟩, ⟨none, 1004005, .store 2 (.t 2) (.t 14), none, []⟩, ⟨none, 1004006, .store 2 (.t 3) (.t 15), none, []⟩, ⟨(some 4), 6, .mv (.t 16), none, []⟩])
  .ret))))
theorem k27 : compCode Try.prog Try.f27.ntmps Try.f27.body.get! = some c27 := by kernel_rfl
theorem r27 : resTmps Try.prog Try.f27.results.toList = some [.cell 2 true 2, .cell 3 true 2, .tmp 4] := by kernel_rfl
/- impl.EntTake -/
def c28 : TCode := (.seq (.ops [⟨(some 1), 3, .box 2 (.t 0), none, []⟩, ⟨(some 2), 4, .box 2 (.c (.ag [(.sl true 1 []), (.sl true 1 [])])), none, []⟩, ⟨(some 3), 5, .box 2 (.c (.ag [(.i .i64 0), (.i .i64 0)])), none, []⟩, ⟨(some 4), 6, .mv (.c (.i .i64 0)), none, []⟩])
  (.seq (.ops [⟨(some 8), 10, .load true 2 (.t 1), none, []⟩, ⟨(some 9), 11, .call 63 [((.t 8), 0)], none, []⟩, ⟨(some 5), 7, .box 2 (.c (.ag [(.sl true 1 []), (.sl true 1 [])])), none, []⟩, ⟨none, 1001003, .store 2 (.t 5) (.t 9), none, []⟩])
  (.seq (.seq (.ops [⟨(some 10), 12, .load true 2 (.t 1), none, []⟩, ⟨(some 11), 13, .call 22 [((.t 10), 0)], none, []⟩, ⟨(some 12), 14, .un .not (.t 11), none, []⟩])
  (.cond (.t 12)
  (.seq (.ops [⟨(some 13), 15, .load true 2 (.t 5), none, []⟩, ⟨(some 14), 16, .build [(.i .i64 0), (.i .i64 0)] [], none, []⟩, ⟨none, 1003002, .store 2 (.t 2) (.t 13), none, []⟩, ⟨none, 1003003, .store 2 (.t 3) (.t 14), none, []⟩, ⟨(some 4), 6, .mv (.c (.i .i64 1)), none, []⟩])
  .ret)
  .skip))
  (.seq (.ops [⟨(some 16), 18, .call 64 [((.t 5), 0)], none, []⟩, ⟨(some 15), 17, .mv (.t 16), none, []⟩, ⟨(some 17), 19, .ext 0 (.t 15), none, []⟩, ⟨(some 18), 20, .ext 1 (.t 15), none, []⟩, ⟨(some 6), 8, .box 2 (.c (.ag [(.i .i64 0), (.i .i64 0)])), none, []⟩, ⟨none, 1004005, .store 2 (.t 6) (.t 17), none, []⟩, ⟨(some 7), 9, .mv (.t 18), none, []⟩])
  (.seq (.draw [⟨(some 19), 21, .load true 2 (.t 5), none, []⟩, ⟨(some 20), 22, .call 63 [((.t 19), 0)], none, []⟩, ⟨(some 21), 23, .load true 2 (.t 6), none, [1]⟩, ⟨(some 22), 24, .mv (.t 7), none, [1]⟩, ⟨none, 1005004, .store 2 (.t 2) (.t 20), none, [2, 3]⟩, ⟨none, 1005005, .store 2 (.t 3) (.t 21), none, [1000000, 3]⟩, ⟨(some 4), 6, .mv (.t 22), none, []⟩])
  .ret)))))
theorem k28 : compCode Try.prog Try.f28.ntmps Try.f28.body.get! = some c28 := by kernel_rfl
theorem r28 : resTmps Try.prog Try.f28.results.toList = some [.cell 2 true 2, .cell 3 true 2, .tmp 4] := by kernel_rfl
/- laws.FnExactEntTake -/
def c8 : TCode := (.seq (.ops [⟨(some 1), 3, .box 2 (.t 0), none, []⟩, ⟨(some 2), 4, .mv (.c (.b false)), none, []⟩])
  (.seq (.ops [⟨(some 3), 5, .mv (.c (.i .i64 1048576)), none, []⟩])
  (.seq (.ops [⟨(some 17), 19, .load true 2 (.t 1), none, []⟩, ⟨(some 18), 20, .mv (.t 3), none, []⟩, ⟨(some 19), 21, .call 19 [((.t 17), 0), ((.t 18), 0)], none, []⟩, ⟨(some 3), 5, .mv (.t 19), none, []⟩])
  (.seq (.seq (.ops [⟨(some 20), 22, .mv (.t 3), none, []⟩, ⟨(some 21), 23, .bin .lss (.t 20) (.c (.i .i64 0)), none, []⟩])
  (.cond (.t 21)
  (.seq (.ops [⟨(some 2), 4, .mv (.c (.b true)), none, []⟩])
  .ret)
  .skip))
  (.seq (.ops [⟨(some 23), 25, .load true 2 (.t 1), none, []⟩, ⟨(some 24), 26, .call 21 [((.t 23), 0)], none, []⟩, ⟨(some 25), 27, .call 27 [((.t 24), 0)], none, []⟩, ⟨(some 22), 24, .mv (.t 25), none, []⟩, ⟨(some 26), 28, .ext 0 (.t 22), none, []⟩, ⟨(some 27), 29, .ext 1 (.t 22), none, []⟩, ⟨(some 28), 30, .ext 2 (.t 22), none, []⟩, ⟨(some 4), 6, .box 2 (.c (.ag [(.sl true 1 []), (.sl true 1 [])])), none, []⟩, ⟨(some 5), 7, .box 2 (.c (.ag [(.i .i64 0), (.i .i64 0)])), none, []⟩, ⟨none, 1005009, .store 2 (.t 4) (.t 26), none, []⟩, ⟨none, 1005010, .store 2 (.t 5) (.t 27), none, []⟩, ⟨(some 6), 8, .mv (.t 28), none, []⟩])
  (.seq (.ops [⟨(some 29), 31, .load true 2 (.t 1), none, []⟩, ⟨(some 30), 32, .call 21 [((.t 29), 0)], none, []⟩, ⟨(some 7), 9, .box 2 (.c (.ag [(.sl true 1 []), (.sl true 1 [])])), none, []⟩, ⟨none, 1006003, .store 2 (.t 7) (.t 30), none, []⟩])
  (.seq (.ops [⟨(some 32), 34, .load true 2 (.t 7), none, []⟩, ⟨(some 33), 35, .call 28 [((.t 32), 0)], none, []⟩, ⟨(some 31), 33, .mv (.t 33), none, []⟩, ⟨(some 34), 36, .ext 0 (.t 31), none, []⟩, ⟨(some 35), 37, .ext 1 (.t 31), none, []⟩, ⟨(some 36), 38, .ext 2 (.t 31), none, []⟩, ⟨(some 8), 10, .box 2 (.c (.ag [(.sl true 1 []), (.sl true 1 [])])), none, []⟩, ⟨(some 9), 11, .box 2 (.c (.ag [(.i .i64 0), (.i .i64 0)])), none, []⟩, ⟨none, 1007008, .store 2 (.t 8) (.t 34), none, []⟩, ⟨none, 1007009, .store 2 (.t 9) (.t 35), none, []⟩, ⟨(some 10), 12, .mv (.t 36), none, []⟩])
  (.seq (.seq (.ops [⟨(some 37), 39, .load true 2 (.t 8), none, []⟩, ⟨(some 38), 40, .load true 2 (.t 4), none, []⟩, ⟨(some 39), 41, .call 23 [((.t 37), 0), ((.t 38), 0)], none, []⟩, ⟨(some 40), 42, .un .not (.t 39), none, []⟩, ⟨(some 41), 43, .mv (.t 40), none, []⟩, ⟨(some 42), 44, .load true 2 (.t 9), (some (41, false)), []⟩, ⟨(some 43), 45, .load true 2 (.t 5), (some (41, false)), []⟩, ⟨(some 44), 46, .call 29 [((.t 42), 0), ((.t 43), 0)], (some (41, false)), []⟩, ⟨(some 45), 47, .un .not (.t 44), (some (41, false)), []⟩, ⟨(some 46), 48, .pick (.t 41) (.c (.b true)) (.t 45), none, []⟩, ⟨(some 47), 49, .mv (.t 46), none, []⟩, ⟨(some 48), 50, .mv (.t 10), (some (47, false)), []⟩, ⟨(some 49), 51, .mv (.t 6), (some (47, false)), []⟩, ⟨(some 50), 52, .bin .neq (.t 48) (.t 49), (some (47, false)), []⟩, ⟨(some 51), 53, .pick (.t 47) (.c (.b true)) (.t 50), none, []⟩])
  (.cond (.t 51)
  (.seq (.ops [⟨(some 2), 4, .mv (.c (.b false)), none, []⟩])
  .ret)
  .skip))
  (.seq (.seq (.draw [⟨(some 52), 54, .load true 2 (.t 7), none, []⟩, ⟨(some 53), 55, .load true 2 (.t 1), none, []⟩, ⟨(some 54), 56, .call 21 [((.t 53), 0)], none, [0]⟩, ⟨(some 55), 57, .call 23 [((.t 52), 0), ((.t 54), 0)], none, []⟩, ⟨(some 56), 58, .un .not (.t 55), none, []⟩])
  (.cond (.t 56)
  (.seq (.ops [⟨(some 2), 4, .mv (.c (.b false)), none, []⟩])
  .ret)
  .skip))
  (.seq (.ops [⟨(some 11), 13, .mv (.c (.i .i64 1)), none, []⟩])
  (.seq (.ops [⟨(some 57), 59, .load true 2 (.t 7), none, []⟩, ⟨(some 58), 60, .mv (.t 11), none, []⟩, ⟨(some 59), 61, .call 30 [((.t 57), 0), ((.t 58), 0)], none, []⟩, ⟨(some 11), 13, .mv (.t 59), none, []⟩])
  (.seq (.seq (.ops [⟨(some 60), 62, .mv (.t 11), none, []⟩, ⟨(some 61), 63, .bin .lss (.t 60) (.c (.i .i64 0)), none, []⟩, ⟨(some 62), 64, .mv (.t 61), none, []⟩, ⟨(some 63), 65, .load true 2 (.t 8), (some (62, false)), []⟩, ⟨(some 64), 66, .load true 2 (.t 4), (some (62, false)), []⟩, ⟨(some 65), 67, .call 23 [((.t 63), 0), ((.t 64), 0)], (some (62, false)), []⟩, ⟨(some 66), 68, .un .not (.t 65), (some (62, false)), []⟩, ⟨(some 67), 69, .pick (.t 62) (.c (.b true)) (.t 66), none, []⟩, ⟨(some 68), 70, .mv (.t 67), none, []⟩, ⟨(some 69), 71, .load true 2 (.t 9), (some (68, false)), []⟩, ⟨(some 70), 72, .load true 2 (.t 5), (some (68, false)), []⟩, ⟨(some 71), 73, .call 29 [((.t 69), 0), ((.t 70), 0)], (some (68, false)), []⟩, ⟨(some 72), 74, .un .not (.t 71), (some (68, false)), []⟩, ⟨(some 73), 75, .pick (.t 68) (.c (.b true)) (.t 72), none, []⟩, ⟨(some 74), 76, .mv (.t 73), none, []⟩, ⟨(some 75), 77, .mv (.t 10), (some (74, false)), []⟩, ⟨(some 76), 78, .mv (.t 6), (some (74, false)), []⟩, ⟨(some 77), 79, .bin .neq (.t 75) (.t 76), (some (74, false)), []⟩, ⟨(some 78), 80, .pick (.t 74) (.c (.b true)) (.t 77), none, []⟩])
  (.cond (.t 78)
  (.seq (.ops [⟨(some 2), 4, .mv (.c (.b false)), none, []⟩])
  .ret)
  .skip))
  (.seq (.ops [⟨(some 12), 14, .mv (.c (.i .i64 1)), none, []⟩])
  (.seq (.ops [⟨(some 79), 81, .load true 2 (.t 8), none, []⟩, ⟨(some 80), 82, .mv (.t 12), none, []⟩, ⟨(some 81), 83, .call 30 [((.t 79), 0), ((.t 80), 0)], none, []⟩, ⟨(some 12), 14, .mv (.t 81), none, []⟩])
  (.seq (.ops [⟨(some 13), 15, .mv (.c (.i .i64 1)), none, []⟩])
  (.seq (.ops [⟨(some 82), 84, .load true 2 (.t 8), none, []⟩, ⟨(some 83), 85, .mv (.t 13), none, []⟩, ⟨(some 84), 86, .call 31 [((.t 82), 0), ((.t 83), 0)], none, []⟩, ⟨(some 13), 15, .mv (.t 84), none, []⟩])
  (.seq (.seq (.ops [⟨(some 85), 87, .mv (.t 13), none, []⟩, ⟨(some 86), 88, .bin .lss (.t 85) (.c (.i .i64 0)), none, []⟩])
  (.cond (.t 86)
  (.seq (.ops [⟨(some 2), 4, .mv (.c (.b false)), none, []⟩])
  .ret)
  .skip))
  (.seq (.seq (.ops [⟨(some 87), 89, .mv (.t 13), none, []⟩, ⟨(some 88), 90, .mv (.t 12), none, []⟩, ⟨(some 89), 91, .bin .neq (.t 87) (.t 88), none, []⟩])
  (.cond (.t 89)
  (.seq (.ops [⟨(some 2), 4, .mv (.c (.b false)), none, []⟩])
  .ret)
  .skip))
  (.seq (.ops [⟨(some 91), 93, .load true 2 (.t 1), none, []⟩, ⟨(some 92), 94, .call 21 [((.t 91), 0)], none, []⟩, ⟨(some 93), 95, .call 28 [((.t 92), 0)], none, []⟩, ⟨(some 90), 92, .mv (.t 93), none, []⟩, ⟨(some 94), 96, .ext 0 (.t 90), none, []⟩, ⟨(some 95), 97, .ext 1 (.t 90), none, []⟩, ⟨(some 96), 98, .ext 2 (.t 90), none, []⟩, ⟨(some 14), 16, .box 2 (.c (.ag [(.sl true 1 []), (.sl true 1 [])])), none, []⟩, ⟨(some 15), 17, .box 2 (.c (.ag [(.i .i64 0), (.i .i64 0)])), none, []⟩, ⟨none, 1024009, .store 2 (.t 14) (.t 94), none, []⟩, ⟨none, 1024010, .store 2 (.t 15) (.t 95), none, []⟩, ⟨(some 16), 18, .mv (.t 96), none, []⟩])
  (.seq (.seq (.ops [⟨(some 97), 99, .load true 2 (.t 14), none, []⟩, ⟨(some 98), 100, .load true 2 (.t 4), none, []⟩, ⟨(some 99), 101, .call 23 [((.t 97), 0), ((.t 98), 0)], none, []⟩, ⟨(some 100), 102, .un .not (.t 99), none, []⟩, ⟨(some 101), 103, .mv (.t 100), none, []⟩, ⟨(some 102), 104, .load true 2 (.t 15), (some (101, false)), []⟩, ⟨(some 103), 105, .load true 2 (.t 5), (some (101, false)), []⟩, ⟨(some 104), 106, .call 29 [((.t 102), 0), ((.t 103), 0)], (some (101, false)), []⟩, ⟨(some 105), 107, .un .not (.t 104), (some (101, false)), []⟩, ⟨(some 106), 108, .pick (.t 101) (.c (.b true)) (.t 105), none, []⟩, ⟨(some 107), 109, .mv (.t 106), none, []⟩, ⟨(some 108), 110, .mv (.t 16), (some (107, false)), []⟩, ⟨(some 109), 111, .mv (.t 6), (some (107, false)), []⟩, ⟨(some 110), 112, .bin .neq (.t 108) (.t 109), (some (107, false)), []⟩, ⟨(some 111), 113, .pick (.t 107) (.c (.b true)) (.t 110), none, []⟩])
  (.cond (.t 111)
  (.seq (.ops [⟨(some 2), 4, .mv (.c (.b false)), none, []⟩])
  .ret)
  .skip))
  (.seq (.ops [⟨(some 13), 15, .mv (.c (.i .i64 1)), none, []⟩])
  (.seq (.ops [⟨(some 112), 114, .load true 2 (.t 8), none, []⟩, ⟨(some 113), 115, .mv (.t 13), none, []⟩, ⟨(some 114), 116, .call 31 [((.t 112), 0), ((.t 113), 0)], none, []⟩, ⟨(some 13), 15, .mv (.t 114), none, []⟩])
  (.seq (.seq (.ops [⟨(some 115), 117, .mv (.t 13), none, []⟩, ⟨(some 116), 118, .bin .lss (.t 115) (.c (.i .i64 0)), none, []⟩])
  (.cond (.t 116)
  (.seq (.ops [⟨(some 2), 4, .mv (.c (.b false)), none, []⟩])
  .ret)
  .skip))
  (.seq (.seq (.ops [⟨(some 117), 119, .mv (.t 13), none, []⟩, ⟨(some 118), 120, .mv (.t 12), none, []⟩, ⟨(some 119), 121, .bin .neq (.t 117) (.t 118), none, []⟩])
  (.cond (.t 119)
  (.seq (.ops [⟨(some 2), 4, .mv (.c (.b false)), none, []⟩])
  .ret)
  .skip))
  (.seq (.ops [⟨(some 2), 4, .mv (.c (.b true)), none, []⟩])
  .ret)))))))))))))))))))))))))
theorem k8 : compCode Try.prog Try.f8.ntmps Try.f8.body.get! = some c8 := by kernel_rfl
theorem r8 : resTmps Try.prog Try.f8.results.toList = some [.tmp 2] := by kernel_rfl

def takeP (g f : List Int) : (List Int × List Int) × (Int × Int) × Int :=
  if f = [] then (if 2000 ≤ g.length then ((g, f), (0, 0), 3) else ((g ++ [0], f), (g.length, 0), 0))
  else ((g, f.dropLast), (f.getLastD 0, g.getD (f.getLastD 0).toNat 0), 0)
theorem takeP_snoc (g f : List Int) (x y : Int) (h : g[x.toNat]? = some y) : takeP g (f ++ [x]) = ((g, f), (x, y), 0) := by
  simp [takeP, h]
theorem w62 (g f : List Int) (hg : g.length ≤ 2^40) (hf : f.length ≤ 2^40) (hx : ∀ x ∈ f, 0 ≤ x ∧ x < g.length) : Contract Try.prog false 62 [.own] [entsO g f] [entsO (takeP g f).1.1 (takeP g f).1.2, entT (takeP g f).2.1.1 (takeP g f).2.1.2, .i .i64 (takeP g f).2.2] [none, none] := by
  refine mk_contract [none, none] Try.func62 (c := Try.f62.body.get!) (by kernel_rfl) k62 r62 (of_decide_eq_true rfl) fun _ => ?_
  rcases List.eq_nil_or_concat f with rfl | ⟨f0, x, rfl⟩
  · have hw : IntKind.i64.wrap (g.length : Int) = g.length := wrap_id (by omega) (by omega)
    unfold c62; unfold entsO entT; simp
    by_cases h : 2000 ≤ g.length
    · simp [takeP, h]; omega
    · simp [takeP, h, hw]
      omega
  · simp only [List.concat_eq_append] at hf hx ⊢
    obtain ⟨h1, h2⟩ := hx x (by simp)
    obtain ⟨y, hy⟩ : ∃ y, g[x.toNat]? = some y := ⟨g[x.toNat]'(by omega), List.getElem?_eq_getElem (by omega)⟩
    rw [takeP_snoc g f0 x y hy]
    have hf' : f0.length + 1 ≤ 2^40 := by simpa using hf
    have hw : IntKind.i64.wrap (f0.length : Int) = f0.length := wrap_id (by omega) (by omega)
    by_cases h0 : f0 = []
    · have hw0 : IntKind.i64.wrap 0 = 0 := wrap_id (by omega) (by omega)
      subst h0
      unfold c62; unfold entsO entT; simp [h1, hy, offE, hw0]
      omega
    · have hO : offE 0 f0.length = 0 := by simp [offE, h0]
      have hT : (List.map iT f0 ++ [[TV.i .i64 x]]).take f0.length = List.map iT f0 := by simp
      unfold c62; unfold entsO entT; simp [hw, h1, hy, hO, hT]
      omega
theorem w64 (g f : List Int) (hg : g.length ≤ 2000) (hf : f.length ≤ 2^40) (hx : ∀ x ∈ f, 0 ≤ x ∧ x < g.length) : Contract Try.prog false 64 [.own] [.po true [.sl true 1 (g.map iT), .sl true 1 (f.map iT)]] [entT (takeP g f).2.1.1 (takeP g f).2.1.2, .i .i64 (takeP g f).2.2] [some (.po true [.sl true 1 ((takeP g f).1.1.map iT), .sl true 1 ((takeP g f).1.2.map iT)])] := by
  refine mk_contract [some [(1, 0)]] Try.func64 (c := Try.f64.body.get!) (by kernel_rfl) k64 r64 (of_decide_eq_true rfl) fun _ => ?_
  rcases List.eq_nil_or_concat f with rfl | ⟨f0, x, rfl⟩
  · have hw : IntKind.i64.wrap (g.length : Int) = g.length := wrap_id (by omega) (by omega)
    unfold c64; unfold entT; simp
    by_cases h : 2000 ≤ g.length
    · have h' : g.length = 2000 := by omega
      simp [takeP, h, h']
    · have h' : ¬ ((g.length : Int) = 2000) := by omega
      simp [takeP, h, h', hw]
      omega
  · simp only [List.concat_eq_append] at hf hx ⊢
    obtain ⟨h1, h2⟩ := hx x (by simp)
    obtain ⟨y, hy⟩ : ∃ y, g[x.toNat]? = some y := ⟨g[x.toNat]'(by omega), List.getElem?_eq_getElem (by omega)⟩
    rw [takeP_snoc g f0 x y hy]
    have hf' : f0.length + 1 ≤ 2^40 := by simpa using hf
    have hw : IntKind.i64.wrap (f0.length : Int) = f0.length := wrap_id (by omega) (by omega)
    by_cases h0 : f0 = []
    · have hw0 : IntKind.i64.wrap 0 = 0 := wrap_id (by omega) (by omega)
      subst h0
      unfold c64; unfold entT; simp [h1, hy, offE, hw0]
      omega
    · have hO : offE 0 f0.length = 0 := by simp [offE, h0]
      have hT : (List.map iT f0 ++ [[TV.i .i64 x]]).take f0.length = List.map iT f0 := by simp
      unfold c64; unfold entT; simp [hw, h1, hy, hO, hT]
      omega
theorem freeOk_mem {n : Nat} {f : List Int} (h : freeOk n f) : ∀ x ∈ f, 0 ≤ x ∧ x < n := by
  exact h.1
theorem takeP_ok {g f : List Int} (h : EntsOkP g f) : (takeP g f).1.1.length ≤ g.length + 1 ∧ (takeP g f).1.2.length ≤ f.length ∧ (takeP g f).1.1.length ≤ 2000 := by
  unfold takeP
  have := h.2.2
  split
  · split <;> simp <;> omega
  · simp; omega
def takeF (g f : List Int) : (List Int × List Int) × (Int × Int) × Int := if EntsOkP g f then takeP g f else ((g, f), (0, 0), 1)
theorem w27 (g f : List Int) (hg : g.length ≤ 2^40) (hf : f.length ≤ 2^39) : Contract Try.prog false 27 [.ro] [entsR g f] [entsO (takeF g f).1.1 (takeF g f).1.2, entT (takeF g f).2.1.1 (takeF g f).2.1.2, .i .i64 (takeF g f).2.2] [] := by
  refine mk_contract [] Try.func27 (c := Try.f27.body.get!) (by kernel_rfl) k27 r27 (of_decide_eq_true rfl) fun _ => ?_
  unfold c27; unfold entsR; simp
  refine callW_ms [.ro] ?_
  simp
  refine callX_of (w61 g f hg (by omega)) (by simp) ?_
  simp [entsO]
  refine callW_ms [.ro] ?_
  simp
  refine callX_of (w20 g f hg (by omega)) (by simp) ?_
  simp
  refine ⟨fun hE => ?_, fun hE => ?_⟩
  · refine callW_ms [.own] ?_
    simp [entsO]
    refine callX_of (w62 g f hg (by omega) (freeOk_mem hE.2.1)) (by simp) ?_
    simp [takeF, hE, entsO, entT]
  · simp [takeF, hE, entsO, entT]
theorem w28 (g f : List Int) (hg : g.length ≤ 2^40) (hf : f.length ≤ 2^39) : Contract Try.prog false 28 [.ro] [entsR g f] [entsO (takeF g f).1.1 (takeF g f).1.2, entT (takeF g f).2.1.1 (takeF g f).2.1.2, .i .i64 (takeF g f).2.2] [] := by
  refine mk_contract [] Try.func28 (c := Try.f28.body.get!) (by kernel_rfl) k28 r28 (of_decide_eq_true rfl) fun _ => ?_
  unfold c28; unfold entsR; simp
  refine callW_ms [.ro] ?_
  simp
  refine callX_of (w63 g f hg (by omega)) (by simp) ?_
  simp [entsO]
  refine callW_ms [.ro] ?_
  simp
  refine callX_of (w22 g f hg (by omega)) (by simp) ?_
  simp
  refine ⟨fun hE => ?_, fun hE => ?_⟩
  · obtain ⟨l1, l2, l3⟩ := takeP_ok hE
    refine callW_ms [.own] ?_
    simp
    refine callX_of (w64 g f hE.2.2 (by omega) (freeOk_mem hE.2.1)) (by simp) ?_
    simp [entT]
    refine callW_ms [.ro] ?_
    simp [entsR]
    refine callX_of (w63 (takeP g f).1.1 (takeP g f).1.2 (by omega) (by omega)) (by simp) ?_
    simp [takeF, hE, entsO, entT]
  · simp [takeF, hE, entsO, entT]
theorem takeF_len (g f : List Int) : (takeF g f).1.1.length ≤ g.length + 1 ∧ (takeF g f).1.2.length ≤ f.length := by
  unfold takeF; split
  · rename_i h; exact ⟨(takeP_ok h).1, (takeP_ok h).2.1⟩
  · simp
theorem w8 (g f : List Int) (hg : g.length < 2^63) (hf : f.length < 2^63) : Contract Try.prog false 8 [.ro] [entsR g f] [.b true] [] := by
  refine mk_contract [] Try.func8 (c := Try.f8.body.get!) (by kernel_rfl) k8 r8 (of_decide_eq_true rfl) fun _ => ?_
  unfold c8; unfold entsR; simp
  refine callW_ms [.ro, .ro] ?_
  simp
  refine callX_of (w19 g f _ hg hf (by omega) (by omega)) (by simp) ?_
  simp
  intro h
  obtain ⟨hg2, hf2⟩ := szEntsF_len (by omega : ¬ szEntsF g f 1048576 < 0)
  refine callW_ms [.ro] ?_
  simp
  refine callX_of (w21 g f (by omega) (by omega)) (by simp) ?_
  simp [entsO]
  obtain ⟨l1, l2⟩ := takeF_len g f
  obtain ⟨G, F, x, y, c, hP⟩ : ∃ G F x y c, takeF g f = ((G, F), (x, y), c) := ⟨_, _, _, _, _, rfl⟩
  have hS := w27 g f (by omega) (by omega)
  have hI := w28 g f (by omega) (by omega)
  rw [hP] at hS hI l1 l2
  simp only at hS hI l1 l2
  refine callW_ms [.ro] ?_
  simp
  refine callX_of hS (by simp) ?_
  simp [entsO, entT]
  refine callW_ms [.ro] ?_
  simp
  refine callX_of (w21 g f (by omega) (by omega)) (by simp) ?_
  simp [entsO]
  refine callW_ms [.ro] ?_
  simp
  refine callX_of hI (by simp) ?_
  simp [entsO, entT]
  refine callW_ms [.ro, .ro] ?_
  simp
  refine callX_of (w23 G F G F (by omega) (by omega) (by omega) (by omega)) (by simp) ?_
  simp
  refine callW_ms [.ro, .ro] ?_
  simp
  refine callX_of (w29 x y x y) (by simp) ?_
  simp
  refine callW_ms [.ro] ?_
  simp
  refine callX_of (w21 g f (by omega) (by omega)) (by simp) ?_
  simp [entsO]
  refine callW_ms [.ro, .ro] ?_
  simp
  refine callX_of (w23 g f g f (by omega) (by omega) (by omega) (by omega)) (by simp) ?_
  simp
  have hk : ¬ (1 + (g.length : Int) + f.length < 0) := by omega
  refine callW_ms [.own, .ro] ?_
  simp
  refine callX_of (w30 g f 1 (by omega) (by omega) (by omega) (by omega)) (by simp) ?_
  simp [entsO, hk]
  refine callW_ms [.ro, .ro] ?_
  simp
  refine callX_of (w23 G F G F (by omega) (by omega) (by omega) (by omega)) (by simp) ?_
  simp
  refine callW_ms [.ro, .ro] ?_
  simp
  refine callX_of (w29 x y x y) (by simp) ?_
  simp
  refine callW_ms [.own, .ro] ?_
  simp
  refine callX_of (w30 G F 1 (by omega) (by omega) (by omega) (by omega)) (by simp) ?_
  simp [entsO]
  refine callW_ms [.ro, .ro] ?_
  simp
  refine callX_of (w31 G.length F.length 1 (by omega) (by omega) (by omega) (by omega)) (by simp) ?_
  simp [entsO]
  refine ⟨by omega, fun _ => ?_⟩
  refine callW_ms [.ro] ?_
  simp
  refine callX_of (w21 g f (by omega) (by omega)) (by simp) ?_
  simp [entsO]
  refine callW_ms [.ro] ?_
  simp
  refine callX_of hI (by simp) ?_
  simp [entsO, entT]
  refine callW_ms [.ro, .ro] ?_
  simp
  refine callX_of (w23 G F G F (by omega) (by omega) (by omega) (by omega)) (by simp) ?_
  simp
  refine callW_ms [.ro, .ro] ?_
  simp
  refine callX_of (w29 x y x y) (by simp) ?_
  simp
  refine callW_ms [.ro, .ro] ?_
  simp
  refine callX_of (w31 G.length F.length 1 (by omega) (by omega) (by omega) (by omega)) (by simp) ?_
  simp [entsO]
  omega
end Go.Proofs.YtlddgmpaaobpoaaT
