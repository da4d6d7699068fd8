/- EntGive: parts. -/
import Derived.Test.YtlddgmpaaobpoaaKd
namespace Go.Proofs.YtlddgmpaaobpoaaT
set_option linter.unusedVariables false
set_option linter.unusedSimpArgs false
open Go

/- spec.l2Copy -/
def c61 : TCode := (.seq (.ops [⟨(some 1), 3, .box 2 (.t 0), none, []⟩, ⟨(some 2), 4, .box 2 (.c (.ag [(.sl true 1 []), (.sl true 1 [])])), none, []⟩])
  (.seq (.draw [⟨(some 3), 5, .bslice 1 0 [(.i .i64 0)] [], none, []⟩, ⟨(some 4), 6, .faddr 0 1 (.t 1), none, [0]⟩, ⟨(some 5), 7, .load false 1 (.t 4), none, [0]⟩, ⟨(some 6), 8, .app 1 8 (.t 3) (.t 5), none, []⟩, ⟨(some 7), 9, .bslice 1 0 [(.i .i64 0)] [], none, [0, 1, 2, 3]⟩, ⟨(some 8), 10, .faddr 1 1 (.t 1), none, [0, 3, 4]⟩, ⟨(some 9), 11, .load false 1 (.t 8), none, [0, 3, 4]⟩, ⟨(some 10), 12, .app 1 8 (.t 7) (.t 9), none, []⟩, ⟨(some 11), 13, .build [(.sl true 1 []), (.sl true 1 [])] [(0, 1, (.t 6)), (1, 1, (.t 10))], none, []⟩, ⟨none, 1001009, .store 2 (.t 2) (.t 11), none, []⟩])
  .ret))
theorem k61 : compCode Try.prog Try.f61.ntmps Try.f61.body.get! = some c61 := by kernel_rfl
theorem r61 : resTmps Try.prog Try.f61.results.toList = some [.cell 2 true 2] := by kernel_rfl
/- impl.copyEnts -/
def c63 : TCode := (.seq (.ops [⟨(some 1), 3, .box 2 (.t 0), none, []⟩, ⟨(some 2), 4, .box 2 (.c (.ag [(.sl true 1 []), (.sl true 1 [])])), none, []⟩])
  (.seq (.draw [⟨(some 3), 5, .faddr 0 1 (.t 1), none, []⟩, ⟨(some 4), 6, .load false 1 (.t 3), none, []⟩, ⟨(some 5), 7, .call 78 [((.t 4), 0)], none, []⟩, ⟨(some 6), 8, .faddr 1 1 (.t 1), none, [2]⟩, ⟨(some 7), 9, .load false 1 (.t 6), none, [2]⟩, ⟨(some 8), 10, .call 78 [((.t 7), 0)], none, []⟩, ⟨(some 9), 11, .build [(.sl true 1 []), (.sl true 1 [])] [(0, 1, (.t 5)), (1, 1, (.t 8))], none, []⟩, ⟨none, 1001007, .store 2 (.t 2) (.t 9), none, []⟩])
  .ret))
theorem k63 : compCode Try.prog Try.f63.ntmps Try.f63.body.get! = some c63 := by kernel_rfl
theorem r63 : resTmps Try.prog Try.f63.results.toList = some [.cell 2 true 2] := by kernel_rfl
/- spec.l2Give -/
def c67 : TCode := (.seq (.ops [⟨(some 2), 4, .box 2 (.t 0), none, []⟩, ⟨(some 3), 5, .box 2 (.t 1), none, []⟩, ⟨(some 4), 6, .box 2 (.c (.ag [(.sl true 1 []), (.sl true 1 [])])), none, []⟩])
  (.seq (.ops [⟨(some 5), 7, .faddr 0 1 (.t 2), none, []⟩, ⟨(some 6), 8, .load false 1 (.t 5), none, []⟩, ⟨(some 7), 9, .faddr 0 1 (.t 3), none, []⟩, ⟨(some 8), 10, .load false 1 (.t 7), none, []⟩, ⟨(some 9), 11, .faddr 1 1 (.t 3), none, []⟩, ⟨(some 10), 12, .load false 1 (.t 9), none, []⟩, ⟨(some 11), 13, .bin .add (.t 10) (.c (.i .i64 1)), none, []⟩, ⟨(some 12), 14, .iaddr 1 (.t 6) (.t 8), none, []⟩, ⟨none, 1001008, .store 1 (.t 12) (.t 11), none, []⟩])
  (.seq (.seq (.ops [⟨(some 13), 15, .faddr 1 1 (.t 3), none, []⟩, ⟨(some 14), 16, .load false 1 (.t 13), none, []⟩, ⟨(some 15), 17, .bin .geq (.t 14) (.c (.i .i64 1000000)), none, []⟩])
  (.cond (.t 15)
  (.ops [⟨(some 16), 18, .faddr 0 1 (.t 2), none, []⟩, ⟨(some 17), 19, .load false 1 (.t 16), none, []⟩, ⟨(some 18), 20, .faddr 0 1 (.t 3), none, []⟩, ⟨(some 19), 21, .load false 1 (.t 18), none, []⟩, ⟨(some 20), 22, .iaddr 1 (.t 17) (.t 19), none, []⟩, ⟨none, 1003005, .store 1 (.t 20) (.c (.i .i64 0)), none, []⟩])
  .skip))
  (.seq (.ops [⟨(some 21), 23, .faddr 1 1 (.t 2), none, []⟩, ⟨(some 22), 24, .load false 1 (.t 21), none, []⟩, ⟨(some 23), 25, .faddr 0 1 (.t 3), none, []⟩, ⟨(some 24), 26, .load false 1 (.t 23), none, []⟩, ⟨(some 25), 27, .bslice 1 1 [(.i .i64 0)] [(0, (.t 24))], none, []⟩, ⟨(some 26), 28, .app 1 8 (.t 22) (.t 25), none, []⟩, ⟨(some 27), 29, .faddr 1 1 (.t 2), none, []⟩, ⟨none, 1004007, .store 1 (.t 27) (.t 26), none, []⟩])
  (.seq (.ops [⟨(some 28), 30, .load true 2 (.t 2), none, []⟩, ⟨none, 1005001, .store 2 (.t 4) (.t 28), none, []⟩])
  .ret)))))
theorem k67 : compCode Try.prog Try.f67.ntmps Try.f67.body.get! = some c67 := by kernel_rfl
theorem r67 : resTmps Try.prog Try.f67.results.toList = some [.cell 4 true 2] := by kernel_rfl
/- (*impl.Ents).give -/
def c68 : TCode := (.seq (.ops [⟨(some 3), 5, .box 2 (.t 1), none, []⟩])
  (.seq (.draw [⟨(some 4), 6, .mv (.t 0), none, []⟩, ⟨(some 5), 7, .nilck (.t 4), none, []⟩, ⟨(some 6), 8, .faddr 0 1 (.t 5), none, []⟩, ⟨(some 7), 9, .load false 1 (.t 6), none, []⟩, ⟨(some 8), 10, .faddr 0 1 (.t 3), none, []⟩, ⟨(some 9), 11, .load false 1 (.t 8), none, []⟩, ⟨(some 10), 12, .iaddr 1 (.t 7) (.t 9), none, []⟩, ⟨(some 11), 13, .load false 1 (.t 10), none, []⟩, ⟨(some 12), 14, .bin .add (.t 11) (.c (.i .i64 1)), none, []⟩, ⟨(some 13), 15, .iaddr 1 (.t 7) (.t 9), none, []⟩, ⟨none, 1001010, .store 1 (.t 13) (.t 12), none, []⟩])
  (.seq (.seq (.draw [⟨(some 14), 16, .mv (.t 0), none, []⟩, ⟨(some 15), 17, .nilck (.t 14), none, []⟩, ⟨(some 16), 18, .faddr 0 1 (.t 15), none, []⟩, ⟨(some 17), 19, .load false 1 (.t 16), none, []⟩, ⟨(some 18), 20, .faddr 0 1 (.t 3), none, []⟩, ⟨(some 19), 21, .load false 1 (.t 18), none, []⟩, ⟨(some 20), 22, .iaddr 1 (.t 17) (.t 19), none, []⟩, ⟨(some 21), 23, .load false 1 (.t 20), none, []⟩, ⟨(some 22), 24, .bin .gtr (.t 21) (.c (.i .i64 1000000)), none, []⟩])
  (.cond (.t 22)
  (.draw [⟨(some 23), 25, .mv (.t 0), none, []⟩, ⟨(some 24), 26, .nilck (.t 23), none, []⟩, ⟨(some 25), 27, .faddr 0 1 (.t 24), none, []⟩, ⟨(some 26), 28, .load false 1 (.t 25), none, []⟩, ⟨(some 27), 29, .faddr 0 1 (.t 3), none, []⟩, ⟨(some 28), 30, .load false 1 (.t 27), none, []⟩, ⟨(some 29), 31, .iaddr 1 (.t 26) (.t 28), none, []⟩, ⟨none, 1003007, .store 1 (.t 29) (.c (.i .i64 0)), none, []⟩])
  .skip))
  (.draw [⟨(some 30), 32, .mv (.t 0), none, []⟩, ⟨(some 31), 33, .mv (.t 0), none, []⟩, ⟨(some 32), 34, .nilck (.t 31), none, []⟩, ⟨(some 33), 35, .faddr 1 1 (.t 32), none, []⟩, ⟨(some 34), 36, .load false 1 (.t 33), none, []⟩, ⟨(some 35), 37, .faddr 0 1 (.t 3), none, []⟩, ⟨(some 36), 38, .load false 1 (.t 35), none, []⟩, ⟨(some 37), 39, .bslice 1 1 [(.i .i64 0)] [(0, (.t 36))], none, [0, 1, 2, 3, 4]⟩, ⟨(some 38), 40, .app 1 8 (.t 34) (.t 37), none, [0]⟩, ⟨(some 39), 41, .nilck (.t 30), none, []⟩, ⟨(some 40), 42, .faddr 1 1 (.t 39), none, []⟩, ⟨none, 1004011, .store 1 (.t 40) (.t 38), none, []⟩]))))
theorem k68 : compCode Try.prog Try.f68.ntmps Try.f68.body.get! = some c68 := by kernel_rfl
theorem r68 : resTmps Try.prog Try.f68.results.toList = some [] := by kernel_rfl
/- laws.markEnts -/
def c30 : TCode := (.seq (.ops [⟨(some 2), 4, .box 2 (.t 0), none, []⟩, ⟨(some 4), 6, .mv (.c (.i .i64 0)), none, []⟩])
  (.seq (.ops [⟨(some 5), 7, .faddr 0 1 (.t 2), none, []⟩, ⟨(some 6), 8, .load false 1 (.t 5), none, []⟩, ⟨(some 7), 9, .mv (.t 1), none, []⟩, ⟨(some 8), 10, .call 65 [((.t 6), 0), ((.t 7), 0)], none, []⟩, ⟨(some 1), 3, .mv (.t 8), none, []⟩])
  (.seq (.ops [⟨(some 9), 11, .faddr 1 1 (.t 2), none, []⟩, ⟨(some 10), 12, .load false 1 (.t 9), none, []⟩, ⟨(some 11), 13, .mv (.t 1), none, []⟩, ⟨(some 12), 14, .call 65 [((.t 10), 0), ((.t 11), 0)], none, []⟩, ⟨(some 1), 3, .mv (.t 12), none, []⟩])
  (.seq (.ops [⟨(some 13), 15, .mv (.t 1), none, []⟩, ⟨(some 4), 6, .mv (.t 13), none, []⟩])
  .ret))))
theorem k30 : compCode Try.prog Try.f30.ntmps Try.f30.body.get! = some c30 := by kernel_rfl
theorem r30 : resTmps Try.prog Try.f30.results.toList = some [.tmp 4] := by kernel_rfl
/- laws.heldEnts -/
def c31 : TCode := (.seq (.ops [⟨(some 2), 4, .box 2 (.t 0), none, []⟩, ⟨(some 4), 6, .mv (.c (.i .i64 0)), none, []⟩])
  (.seq (.ops [⟨(some 5), 7, .faddr 0 1 (.t 2), none, []⟩, ⟨(some 6), 8, .load false 1 (.t 5), none, []⟩, ⟨(some 7), 9, .mv (.t 1), none, []⟩, ⟨(some 8), 10, .call 66 [((.t 6), 0), ((.t 7), 0)], none, []⟩, ⟨(some 1), 3, .mv (.t 8), none, []⟩])
  (.seq (.seq (.ops [⟨(some 9), 11, .mv (.t 1), none, []⟩, ⟨(some 10), 12, .bin .lss (.t 9) (.c (.i .i64 0)), none, []⟩])
  (.cond (.t 10)
  (.seq (.ops [⟨(some 4), 6, .mv (.c (.i .i64 (-1))), none, []⟩])
  .ret)
  .skip))
  (.seq (.ops [⟨(some 11), 13, .faddr 1 1 (.t 2), none, []⟩, ⟨(some 12), 14, .load false 1 (.t 11), none, []⟩, ⟨(some 13), 15, .mv (.t 1), none, []⟩, ⟨(some 14), 16, .call 66 [((.t 12), 0), ((.t 13), 0)], none, []⟩, ⟨(some 1), 3, .mv (.t 14), none, []⟩])
  (.seq (.seq (.ops [⟨(some 15), 17, .mv (.t 1), none, []⟩, ⟨(some 16), 18, .bin .lss (.t 15) (.c (.i .i64 0)), none, []⟩])
  (.cond (.t 16)
  (.seq (.ops [⟨(some 4), 6, .mv (.c (.i .i64 (-1))), none, []⟩])
  .ret)
  .skip))
  (.seq (.ops [⟨(some 17), 19, .mv (.t 1), none, []⟩, ⟨(some 4), 6, .mv (.t 17), none, []⟩])
  .ret))))))
theorem k31 : compCode Try.prog Try.f31.ntmps Try.f31.body.get! = some c31 := by kernel_rfl
theorem r31 : resTmps Try.prog Try.f31.results.toList = some [.tmp 4] := by kernel_rfl
/- spec.EntGive -/
def c32 : TCode := (.seq (.ops [⟨(some 2), 4, .box 2 (.t 0), none, []⟩, ⟨(some 3), 5, .box 2 (.t 1), none, []⟩, ⟨(some 4), 6, .box 2 (.c (.ag [(.sl true 1 []), (.sl true 1 [])])), none, []⟩, ⟨(some 5), 7, .mv (.c (.i .i64 0)), none, []⟩])
  (.seq (.ops [⟨(some 6), 8, .load true 2 (.t 2), none, []⟩, ⟨(some 7), 9, .call 61 [((.t 6), 0)], none, []⟩, ⟨none, 1001002, .store 2 (.t 2) (.t 7), none, []⟩])
  (.seq (.seq (.ops [⟨(some 8), 10, .load true 2 (.t 2), none, []⟩, ⟨(some 9), 11, .call 20 [((.t 8), 0)], none, []⟩, ⟨(some 10), 12, .un .not (.t 9), none, []⟩])
  (.cond (.t 10)
  (.seq (.ops [⟨(some 11), 13, .load true 2 (.t 2), none, []⟩, ⟨none, 1003001, .store 2 (.t 4) (.t 11), none, []⟩, ⟨(some 5), 7, .mv (.c (.i .i64 1)), none, []⟩])
  .ret)
  .skip))
  (.seq (.seq (.ops [⟨(some 12), 14, .load true 2 (.t 2), none, []⟩, ⟨(some 13), 15, .load true 2 (.t 3), none, []⟩, ⟨(some 14), 16, .call 59 [((.t 12), 0), ((.t 13), 0)], none, []⟩, ⟨(some 15), 17, .un .not (.t 14), none, []⟩])
  (.cond (.t 15)
  (.seq (.ops [⟨(some 16), 18, .load true 2 (.t 2), none, []⟩, ⟨none, 1005001, .store 2 (.t 4) (.t 16), none, []⟩, ⟨(some 5), 7, .mv (.c (.i .i64 2)), none, []⟩])
  .ret)
  .skip))
  (.seq (.ops [⟨(some 17), 19, .load true 2 (.t 2), none, []⟩, ⟨(some 18), 20, .load true 2 (.t 3), none, []⟩, ⟨(some 19), 21, .call 67 [((.t 17), 0), ((.t 18), 0)], none, []⟩, ⟨none, 1006003, .store 2 (.t 4) (.t 19), none, []⟩, ⟨(some 5), 7, .mv (.c (.i .i64 0)), none, []⟩])
  .ret)))))
theorem k32 : compCode Try.prog Try.f32.ntmps Try.f32.body.get! = some c32 := by kernel_rfl
theorem r32 : resTmps Try.prog Try.f32.results.toList = some [.cell 4 true 2, .tmp 5] := by kernel_rfl
/- impl.EntGive -/
def c33 : TCode := (.seq (.ops [⟨(some 2), 4, .box 2 (.t 0), none, []⟩, ⟨(some 3), 5, .box 2 (.t 1), none, []⟩, ⟨(some 4), 6, .box 2 (.c (.ag [(.sl true 1 []), (.sl true 1 [])])), none, []⟩, ⟨(some 5), 7, .mv (.c (.i .i64 0)), none, []⟩])
  (.seq (.ops [⟨(some 7), 9, .load true 2 (.t 2), none, []⟩, ⟨(some 8), 10, .call 63 [((.t 7), 0)], none, []⟩, ⟨(some 6), 8, .box 2 (.c (.ag [(.sl true 1 []), (.sl true 1 [])])), none, []⟩, ⟨none, 1001003, .store 2 (.t 6) (.t 8), none, []⟩])
  (.seq (.block 0 (.seq (.ops [⟨(some 10), 12, .load true 2 (.t 2), none, []⟩, ⟨(some 11), 13, .call 22 [((.t 10), 0)], none, []⟩, ⟨(some 12), 14, .un .not (.t 11), none, []⟩, ⟨(some 9), 11, .mv (.t 12), none, []⟩])
  (.cond (.t 9)
  (.seq (.ops [⟨(some 13), 15, .load true 2 (.t 6), none, []⟩, ⟨none, 1003001, .store 2 (.t 4) (.t 13), none, []⟩, ⟨(some 5), 7, .mv (.c (.i .i64 1)), none, []⟩])
  .ret)
  (.seq (.ops [⟨(some 15), 17, .load true 2 (.t 3), none, []⟩, ⟨(some 16), 18, .call 60 [((.t 2), 0), ((.t 15), 0)], none, []⟩, ⟨(some 17), 19, .un .not (.t 16), none, []⟩, ⟨(some 14), 16, .mv (.t 17), none, []⟩])
  (.cond (.t 14)
  (.seq (.ops [⟨(some 18), 20, .load true 2 (.t 6), none, []⟩, ⟨none, 1005001, .store 2 (.t 4) (.t 18), none, []⟩, ⟨(some 5), 7, .mv (.c (.i .i64 2)), none, []⟩])
  .ret)
  .skip)))))
  (.seq (.ops [⟨(some 19), 21, .load true 2 (.t 3), none, []⟩, ⟨(some 20), 22, .call 68 [((.t 6), 0), ((.t 19), 0)], none, []⟩])
  (.seq (.ops [⟨(some 21), 23, .load true 2 (.t 6), none, []⟩, ⟨none, 1007001, .store 2 (.t 4) (.t 21), none, []⟩, ⟨(some 5), 7, .mv (.c (.i .i64 0)), none, []⟩])
  .ret)))))
theorem k33 : compCode Try.prog Try.f33.ntmps Try.f33.body.get! = some c33 := by kernel_rfl
theorem r33 : resTmps Try.prog Try.f33.results.toList = some [.cell 4 true 2, .tmp 5] := by kernel_rfl
/- laws.FnExactEntGive -/
def c9 : TCode := (.seq (.ops [⟨(some 2), 4, .box 2 (.t 0), none, []⟩, ⟨(some 3), 5, .box 2 (.t 1), none, []⟩, ⟨(some 4), 6, .mv (.c (.b false)), none, []⟩])
  (.seq (.ops [⟨(some 5), 7, .mv (.c (.i .i64 1048576)), none, []⟩])
  (.seq (.ops [⟨(some 16), 18, .load true 2 (.t 2), none, []⟩, ⟨(some 17), 19, .mv (.t 5), none, []⟩, ⟨(some 18), 20, .call 19 [((.t 16), 0), ((.t 17), 0)], none, []⟩, ⟨(some 5), 7, .mv (.t 18), none, []⟩])
  (.seq (.seq (.ops [⟨(some 19), 21, .mv (.t 5), none, []⟩, ⟨(some 20), 22, .bin .lss (.t 19) (.c (.i .i64 0)), none, []⟩])
  (.cond (.t 20)
  (.seq (.ops [⟨(some 4), 6, .mv (.c (.b true)), none, []⟩])
  .ret)
  .skip))
  (.seq (.draw [⟨(some 22), 24, .load true 2 (.t 2), none, []⟩, ⟨(some 23), 25, .call 21 [((.t 22), 0)], none, []⟩, ⟨(some 24), 26, .load true 2 (.t 3), none, [1]⟩, ⟨(some 25), 27, .call 25 [((.t 24), 0)], none, []⟩, ⟨(some 26), 28, .call 32 [((.t 23), 0), ((.t 25), 0)], none, []⟩, ⟨(some 21), 23, .mv (.t 26), none, []⟩, ⟨(some 27), 29, .ext 0 (.t 21), none, []⟩, ⟨(some 28), 30, .ext 1 (.t 21), none, []⟩, ⟨(some 6), 8, .box 2 (.c (.ag [(.sl true 1 []), (.sl true 1 [])])), none, [0, 1, 2, 3, 4, 5, 6, 7]⟩, ⟨none, 1005009, .store 2 (.t 6) (.t 27), none, [1000000, 7]⟩, ⟨(some 7), 9, .mv (.t 28), none, []⟩])
  (.seq (.ops [⟨(some 29), 31, .load true 2 (.t 2), none, []⟩, ⟨(some 30), 32, .call 21 [((.t 29), 0)], none, []⟩, ⟨(some 8), 10, .box 2 (.c (.ag [(.sl true 1 []), (.sl true 1 [])])), none, []⟩, ⟨none, 1006003, .store 2 (.t 8) (.t 30), none, []⟩])
  (.seq (.draw [⟨(some 32), 34, .load true 2 (.t 8), none, []⟩, ⟨(some 33), 35, .load true 2 (.t 3), none, []⟩, ⟨(some 34), 36, .call 25 [((.t 33), 0)], none, [0]⟩, ⟨(some 35), 37, .call 33 [((.t 32), 0), ((.t 34), 0)], none, []⟩, ⟨(some 31), 33, .mv (.t 35), none, []⟩, ⟨(some 36), 38, .ext 0 (.t 31), none, []⟩, ⟨(some 37), 39, .ext 1 (.t 31), none, []⟩, ⟨(some 9), 11, .box 2 (.c (.ag [(.sl true 1 []), (.sl true 1 [])])), none, [0, 1, 2, 3, 4, 5, 6]⟩, ⟨none, 1007008, .store 2 (.t 9) (.t 36), none, [1000000, 6]⟩, ⟨(some 10), 12, .mv (.t 37), none, []⟩])
  (.seq (.seq (.ops [⟨(some 38), 40, .load true 2 (.t 9), none, []⟩, ⟨(some 39), 41, .load true 2 (.t 6), none, []⟩, ⟨(some 40), 42, .call 23 [((.t 38), 0), ((.t 39), 0)], none, []⟩, ⟨(some 41), 43, .un .not (.t 40), none, []⟩, ⟨(some 42), 44, .mv (.t 41), none, []⟩, ⟨(some 43), 45, .mv (.t 10), (some (42, false)), []⟩, ⟨(some 44), 46, .mv (.t 7), (some (42, false)), []⟩, ⟨(some 45), 47, .bin .neq (.t 43) (.t 44), (some (42, false)), []⟩, ⟨(some 46), 48, .pick (.t 42) (.c (.b true)) (.t 45), none, []⟩])
  (.cond (.t 46)
  (.seq (.ops [⟨(some 4), 6, .mv (.c (.b false)), none, []⟩])
  .ret)
  .skip))
  (.seq (.seq (.draw [⟨(some 47), 49, .load true 2 (.t 8), none, []⟩, ⟨(some 48), 50, .load true 2 (.t 2), none, []⟩, ⟨(some 49), 51, .call 21 [((.t 48), 0)], none, [0]⟩, ⟨(some 50), 52, .call 23 [((.t 47), 0), ((.t 49), 0)], none, []⟩, ⟨(some 51), 53, .un .not (.t 50), none, []⟩])
  (.cond (.t 51)
  (.seq (.ops [⟨(some 4), 6, .mv (.c (.b false)), none, []⟩])
  .ret)
  .skip))
  (.seq (.ops [⟨(some 11), 13, .mv (.c (.i .i64 1)), none, []⟩])
  (.seq (.ops [⟨(some 52), 54, .load true 2 (.t 8), none, []⟩, ⟨(some 53), 55, .mv (.t 11), none, []⟩, ⟨(some 54), 56, .call 30 [((.t 52), 0), ((.t 53), 0)], none, []⟩, ⟨(some 11), 13, .mv (.t 54), none, []⟩])
  (.seq (.seq (.ops [⟨(some 55), 57, .mv (.t 11), none, []⟩, ⟨(some 56), 58, .bin .lss (.t 55) (.c (.i .i64 0)), none, []⟩, ⟨(some 57), 59, .mv (.t 56), none, []⟩, ⟨(some 58), 60, .load true 2 (.t 9), (some (57, false)), []⟩, ⟨(some 59), 61, .load true 2 (.t 6), (some (57, false)), []⟩, ⟨(some 60), 62, .call 23 [((.t 58), 0), ((.t 59), 0)], (some (57, false)), []⟩, ⟨(some 61), 63, .un .not (.t 60), (some (57, false)), []⟩, ⟨(some 62), 64, .pick (.t 57) (.c (.b true)) (.t 61), none, []⟩, ⟨(some 63), 65, .mv (.t 62), none, []⟩, ⟨(some 64), 66, .mv (.t 10), (some (63, false)), []⟩, ⟨(some 65), 67, .mv (.t 7), (some (63, false)), []⟩, ⟨(some 66), 68, .bin .neq (.t 64) (.t 65), (some (63, false)), []⟩, ⟨(some 67), 69, .pick (.t 63) (.c (.b true)) (.t 66), none, []⟩])
  (.cond (.t 67)
  (.seq (.ops [⟨(some 4), 6, .mv (.c (.b false)), none, []⟩])
  .ret)
  .skip))
  (.seq (.ops [⟨(some 12), 14, .mv (.c (.i .i64 1)), none, []⟩])
  (.seq (.ops [⟨(some 68), 70, .load true 2 (.t 9), none, []⟩, ⟨(some 69), 71, .mv (.t 12), none, []⟩, ⟨(some 70), 72, .call 30 [((.t 68), 0), ((.t 69), 0)], none, []⟩, ⟨(some 12), 14, .mv (.t 70), none, []⟩])
  (.seq (.ops [⟨(some 13), 15, .mv (.c (.i .i64 1)), none, []⟩])
  (.seq (.ops [⟨(some 71), 73, .load true 2 (.t 9), none, []⟩, ⟨(some 72), 74, .mv (.t 13), none, []⟩, ⟨(some 73), 75, .call 31 [((.t 71), 0), ((.t 72), 0)], none, []⟩, ⟨(some 13), 15, .mv (.t 73), none, []⟩])
  (.seq (.seq (.ops [⟨(some 74), 76, .mv (.t 13), none, []⟩, ⟨(some 75), 77, .bin .lss (.t 74) (.c (.i .i64 0)), none, []⟩])
  (.cond (.t 75)
  (.seq (.ops [⟨(some 4), 6, .mv (.c (.b false)), none, []⟩])
  .ret)
  .skip))
  (.seq (.seq (.ops [⟨(some 76), 78, .mv (.t 13), none, []⟩, ⟨(some 77), 79, .mv (.t 12), none, []⟩, ⟨(some 78), 80, .bin .neq (.t 76) (.t 77), none, []⟩])
  (.cond (.t 78)
  (.seq (.ops [⟨(some 4), 6, .mv (.c (.b false)), none, []⟩])
  .ret)
  .skip))
  (.seq (.draw [⟨(some 80), 82, .load true 2 (.t 2), none, []⟩, ⟨(some 81), 83, .call 21 [((.t 80), 0)], none, []⟩, ⟨(some 82), 84, .load true 2 (.t 3), none, [1]⟩, ⟨(some 83), 85, .call 25 [((.t 82), 0)], none, []⟩, ⟨(some 84), 86, .call 33 [((.t 81), 0), ((.t 83), 0)], none, []⟩, ⟨(some 79), 81, .mv (.t 84), none, []⟩, ⟨(some 85), 87, .ext 0 (.t 79), none, []⟩, ⟨(some 86), 88, .ext 1 (.t 79), none, []⟩, ⟨(some 14), 16, .box 2 (.c (.ag [(.sl true 1 []), (.sl true 1 [])])), none, [0, 1, 2, 3, 4, 5, 6, 7]⟩, ⟨none, 1024009, .store 2 (.t 14) (.t 85), none, [1000000, 7]⟩, ⟨(some 15), 17, .mv (.t 86), none, []⟩])
  (.seq (.seq (.ops [⟨(some 87), 89, .load true 2 (.t 14), none, []⟩, ⟨(some 88), 90, .load true 2 (.t 6), none, []⟩, ⟨(some 89), 91, .call 23 [((.t 87), 0), ((.t 88), 0)], none, []⟩, ⟨(some 90), 92, .un .not (.t 89), none, []⟩, ⟨(some 91), 93, .mv (.t 90), none, []⟩, ⟨(some 92), 94, .mv (.t 15), (some (91, false)), []⟩, ⟨(some 93), 95, .mv (.t 7), (some (91, false)), []⟩, ⟨(some 94), 96, .bin .neq (.t 92) (.t 93), (some (91, false)), []⟩, ⟨(some 95), 97, .pick (.t 91) (.c (.b true)) (.t 94), none, []⟩])
  (.cond (.t 95)
  (.seq (.ops [⟨(some 4), 6, .mv (.c (.b false)), none, []⟩])
  .ret)
  .skip))
  (.seq (.ops [⟨(some 13), 15, .mv (.c (.i .i64 1)), none, []⟩])
  (.seq (.ops [⟨(some 96), 98, .load true 2 (.t 9), none, []⟩, ⟨(some 97), 99, .mv (.t 13), none, []⟩, ⟨(some 98), 100, .call 31 [((.t 96), 0), ((.t 97), 0)], none, []⟩, ⟨(some 13), 15, .mv (.t 98), none, []⟩])
  (.seq (.seq (.ops [⟨(some 99), 101, .mv (.t 13), none, []⟩, ⟨(some 100), 102, .bin .lss (.t 99) (.c (.i .i64 0)), none, []⟩])
  (.cond (.t 100)
  (.seq (.ops [⟨(some 4), 6, .mv (.c (.b false)), none, []⟩])
  .ret)
  .skip))
  (.seq (.seq (.ops [⟨(some 101), 103, .mv (.t 13), none, []⟩, ⟨(some 102), 104, .mv (.t 12), none, []⟩, ⟨(some 103), 105, .bin .neq (.t 101) (.t 102), none, []⟩])
  (.cond (.t 103)
  (.seq (.ops [⟨(some 4), 6, .mv (.c (.b false)), none, []⟩])
  .ret)
  .skip))
  (.seq (.ops [⟨(some 4), 6, .mv (.c (.b true)), none, []⟩])
  .ret)))))))))))))))))))))))))
theorem k9 : compCode Try.prog Try.f9.ntmps Try.f9.body.get! = some c9 := by kernel_rfl
theorem r9 : resTmps Try.prog Try.f9.results.toList = some [.tmp 4] := by kernel_rfl

theorem w61 (g f : List Int) (hg : g.length ≤ 2^40) (hf : f.length ≤ 2^40) : Contract Try.prog false 61 [.ro] [entsR g f] [entsO g f] [] := by
  refine mk_contract [] Try.func61 (c := Try.f61.body.get!) (by kernel_rfl) k61 r61 (of_decide_eq_true rfl) fun _ => ?_
  unfold c61 entsR entsO; simp
  omega
theorem w63 (g f : List Int) (hg : g.length ≤ 2^40) (hf : f.length ≤ 2^40) : Contract Try.prog false 63 [.ro] [entsR g f] [entsO g f] [] := by
  refine mk_contract [] Try.func63 (c := Try.f63.body.get!) (by kernel_rfl) k63 r63 (of_decide_eq_true rfl) fun _ => ?_
  unfold c63 entsR entsO; simp
  refine callW_ms [.ro] ?_
  simp
  refine callX_of (w78 g hg) (by simp) ?_
  simp
  refine callW_ms [.ro] ?_
  simp
  refine callX_of (w78 f hf) (by simp) ?_
  simp

def giveG (g : List Int) (x y : Int) : List Int := g.set x.toNat (if 1000000 ≤ y then 0 else y + 1)
@[simp] theorem giveG_len (g : List Int) (x y : Int) : (giveG g x y).length = g.length := by simp [giveG]
theorem w67 (g f : List Int) (x y : Int) (hf : f.length ≤ 2^40) (hx0 : 0 ≤ x) (hxg : g[x.toNat]? = some y) (hy : 0 ≤ y ∧ y ≤ 1000000) : Contract Try.prog false 67 [.own, .ro] [entsO g f, entT x y] [entsO (giveG g x y) (f ++ [x])] [none, none] := by
  refine mk_contract [none, none] Try.func67 (c := Try.f67.body.get!) (by kernel_rfl) k67 r67 (of_decide_eq_true rfl) fun _ => ?_
  have hlt := (List.getElem?_eq_some_iff.1 hxg).1
  have hw : IntKind.i64.wrap (y + 1) = y + 1 := wrap_id (by omega) (by omega)
  have hs : ∀ e, ((g.map iT).set x.toNat e)[x.toNat]? = some e := fun e => by simp [hlt]
  unfold c67; unfold entsO entT; simp [hw, hx0, hxg, hs]
  refine ⟨by omega, fun hge => ?_, fun hlt2 => ?_⟩
  · simp [giveG, hge]; omega
  · simp [giveG, show ¬ 1000000 ≤ y by omega]; omega
theorem w68 (g f : List Int) (x y : Int) (hf : f.length ≤ 2^40) (hx0 : 0 ≤ x) (hxg : g[x.toNat]? = some y) (hy : 0 ≤ y ∧ y ≤ 1000000) : Contract Try.prog false 68 [.own, .ro] [.po true [.sl true 1 (g.map iT), .sl true 1 (f.map iT)], entT x y] [] [some (.po true [.sl true 1 ((giveG g x y).map iT), .sl true 1 ((f ++ [x]).map iT)])] := by
  refine mk_contract [some [(1, 0)]] Try.func68 (c := Try.f68.body.get!) (by kernel_rfl) k68 r68 (of_decide_eq_true rfl) fun _ => ?_
  have hlt := (List.getElem?_eq_some_iff.1 hxg).1
  have hw : IntKind.i64.wrap (y + 1) = y + 1 := wrap_id (by omega) (by omega)
  have hs : ∀ e, ((g.map iT).set x.toNat e)[x.toNat]? = some e := fun e => by simp [hlt]
  unfold c68; unfold entT; simp [hw, hx0, hxg, hs]
  refine ⟨by omega, fun hge => ?_, fun hlt2 => ?_⟩
  · simp [giveG, show 1000000 ≤ y by omega]; omega
  · simp [giveG, show ¬ 1000000 ≤ y by omega]; omega
theorem w30 (g f : List Int) (k : Int) (hg : g.length ≤ 2^30) (hf : f.length ≤ 2^30) (hk : 0 ≤ k) (hk2 : k ≤ 2^39) : Contract Try.prog false 30 [.own, .ro] [entsO g f, .i .i64 k] [.i .i64 (k + g.length + f.length)] [some (.sl true 1 ((cnt k g.length).map iT)), some (.sl true 1 ((cnt (k + g.length) f.length).map iT))] := by
  refine mk_contract [some [(4, 0), (0, 0)], some [(4, 0), (0, 1)]] Try.func30 (c := Try.f30.body.get!) (by kernel_rfl) k30 r30 (of_decide_eq_true rfl) fun _ => ?_
  unfold c30; unfold entsO; simp
  refine callW_ms [.own, .ro] ?_
  simp
  refine callX_of (w65 g k (by omega) (by omega) (by omega)) (by simp) ?_
  simp
  refine callW_ms [.own, .ro] ?_
  simp
  refine callX_of (w65 f _ (by omega) (by omega) (by omega)) (by simp) ?_
  simp
theorem W66 (n : Nat) (k : Int) (hl : n ≤ 2^40) (hk : 0 ≤ k) (hk2 : k ≤ 2^40) : Contract Try.prog false 66 [.ro, .ro] [.sl false 1 ((cnt k n).map iT), .i .i64 k] [.i .i64 (k + n)] [] := by
  simpa using w66 (cnt k n) k (by simpa using hl) hk hk2
theorem w31 (n m : Nat) (k : Int) (hg : n ≤ 2^30) (hf : m ≤ 2^30) (hk : 0 ≤ k) (hk2 : k ≤ 2^39) : Contract Try.prog false 31 [.ro, .ro] [entsR (cnt k n) (cnt (k + n) m), .i .i64 k] [.i .i64 (k + n + m)] [] := by
  refine mk_contract [] Try.func31 (c := Try.f31.body.get!) (by kernel_rfl) k31 r31 (of_decide_eq_true rfl) fun _ => ?_
  unfold c31; unfold entsR; simp
  refine callW_ms [.ro, .ro] ?_
  simp
  refine callX_of (W66 n k (by omega) (by omega) (by omega)) (by simp) ?_
  simp
  refine ⟨by omega, fun _ => ?_⟩
  refine callW_ms [.ro, .ro] ?_
  simp
  refine callX_of (W66 m _ (by omega) (by omega) (by omega)) (by simp) ?_
  simp
  omega
def giveP (g f : List Int) (x y : Int) : List Int × List Int × Int :=
  if EntsOkP g f then (if liveP g f x y then (giveG g x y, f ++ [x], 0) else (g, f, 2)) else (g, f, 1)
theorem w32 (g f : List Int) (x y : Int) (hg : g.length ≤ 2^40) (hf : f.length ≤ 2^39) : Contract Try.prog false 32 [.ro, .ro] [entsR g f, entT x y] [entsO (giveP g f x y).1 (giveP g f x y).2.1, .i .i64 (giveP g f x y).2.2] [] := by
  refine mk_contract [] Try.func32 (c := Try.f32.body.get!) (by kernel_rfl) k32 r32 (of_decide_eq_true rfl) fun _ => ?_
  unfold c32; unfold entsR entT; simp
  refine callW_ms [.ro] ?_
  simp
  refine callX_of (w61 g f hg (by omega)) (by simp) ?_
  simp [entsO]
  refine callW_ms [.ro] ?_
  simp
  refine callX_of (w20 g f hg (by omega)) (by simp) ?_
  simp
  refine ⟨fun hE => ?_, fun hE => ?_⟩
  · refine callW_ms [.ro, .ro] ?_
    simp
    refine callX_of (w59 g f x y hg (by omega)) (by simp) ?_
    simp
    refine ⟨fun hl => ?_, fun hl => ?_⟩
    · have hxy := hE.1 y (List.mem_of_getElem? hl.2.1)
      refine callW_ms [.own, .ro] ?_
      simp [entsO]
      refine callX_of (w67 g f x y (by omega) hl.1.1 hl.2.1 hxy) (by simp) ?_
      simp [giveP, hE, hl, entsO]
    · simp [giveP, hE, hl, entsO]
  · simp [giveP, hE, entsO]
theorem w33 (g f : List Int) (x y : Int) (hg : g.length ≤ 2^40) (hf : f.length ≤ 2^39) : Contract Try.prog false 33 [.ro, .ro] [entsR g f, entT x y] [entsO (giveP g f x y).1 (giveP g f x y).2.1, .i .i64 (giveP g f x y).2.2] [] := by
  refine mk_contract [] Try.func33 (c := Try.f33.body.get!) (by kernel_rfl) k33 r33 (of_decide_eq_true rfl) fun _ => ?_
  unfold c33; unfold entsR entT; simp
  refine callW_ms [.ro] ?_
  simp
  refine callX_of (w63 g f hg (by omega)) (by simp) ?_
  simp [entsO]
  refine callW_ms [.ro] ?_
  simp
  refine callX_of (w22 g f hg (by omega)) (by simp) ?_
  simp
  refine ⟨fun hE => ?_, fun hE => ?_⟩
  · refine callW_ms [.ro, .ro] ?_
    simp
    refine callX_of (w60 g f x y hg (by omega)) (by simp) ?_
    simp
    refine ⟨fun hl => ?_, fun hl => ?_⟩
    · have hxy := hE.1 y (List.mem_of_getElem? hl.2.1)
      refine callW_ms [.own, .ro] ?_
      simp
      refine callX_of (w68 g f x y (by omega) hl.1.1 hl.2.1 hxy) (by simp) ?_
      simp [giveP, hE, hl, entsO]
    · simp [giveP, hE, hl, entsO]
  · simp [giveP, hE, entsO]
theorem giveP_len (g f : List Int) (x y : Int) : (giveP g f x y).1.length = g.length ∧ (giveP g f x y).2.1.length ≤ f.length + 1 := by
  unfold giveP; split
  · split <;> simp
  · simp
theorem w9 (g f : List Int) (x y : Int) (hg : g.length < 2^63) (hf : f.length < 2^63) : Contract Try.prog false 9 [.ro, .ro] [entsR g f, entT x y] [.b true] [] := by
  refine mk_contract [] Try.func9 (c := Try.f9.body.get!) (by kernel_rfl) k9 r9 (of_decide_eq_true rfl) fun _ => ?_
  unfold c9; unfold entsR entT; simp
  refine callW_ms [.ro, .ro] ?_
  simp
  refine callX_of (w19 g f _ hg hf (by omega) (by omega)) (by simp) ?_
  simp
  intro h
  obtain ⟨hg2, hf2⟩ := szEntsF_len (by omega : ¬ szEntsF g f 1048576 < 0)
  refine callW_ms [.ro] ?_
  simp
  refine callX_of (w21 g f (by omega) (by omega)) (by simp) ?_
  simp [entsO]
  refine callW_ms [.ro] ?_
  simp
  refine callX_of (w25 x y) (by simp) ?_
  simp [entT]
  obtain ⟨l1, l2⟩ := giveP_len g f x y
  obtain ⟨G, F, c, hP⟩ : ∃ G F c, giveP g f x y = (G, F, c) := ⟨_, _, _, rfl⟩
  have hS := w32 g f x y (by omega) (by omega)
  have hI := w33 g f x y (by omega) (by omega)
  rw [hP] at hS hI l1 l2
  simp only at hS hI l1 l2
  refine callW_ms [.ro, .ro] ?_
  simp
  refine callX_of hS (by simp) ?_
  simp [entsO]
  refine callW_ms [.ro] ?_
  simp
  refine callX_of (w21 g f (by omega) (by omega)) (by simp) ?_
  simp [entsO]
  refine callW_ms [.ro] ?_
  simp
  refine callX_of (w25 x y) (by simp) ?_
  simp [entT]
  refine callW_ms [.ro, .ro] ?_
  simp
  refine callX_of hI (by simp) ?_
  simp [entsO]
  refine callW_ms [.ro, .ro] ?_
  simp
  refine callX_of (w23 G F G F (by omega) (by omega) (by omega) (by omega)) (by simp) ?_
  simp
  refine callW_ms [.ro] ?_
  simp
  refine callX_of (w21 g f (by omega) (by omega)) (by simp) ?_
  simp [entsO]
  refine callW_ms [.ro, .ro] ?_
  simp
  refine callX_of (w23 g f g f (by omega) (by omega) (by omega) (by omega)) (by simp) ?_
  simp
  have hk : ¬ (1 + (g.length : Int) + f.length < 0) := by omega
  refine callW_ms [.own, .ro] ?_
  simp
  refine callX_of (w30 g f 1 (by omega) (by omega) (by omega) (by omega)) (by simp) ?_
  simp [entsO, hk]
  refine callW_ms [.ro, .ro] ?_
  simp
  refine callX_of (w23 G F G F (by omega) (by omega) (by omega) (by omega)) (by simp) ?_
  simp
  refine callW_ms [.own, .ro] ?_
  simp
  refine callX_of (w30 G F 1 (by omega) (by omega) (by omega) (by omega)) (by simp) ?_
  simp [entsO]
  refine callW_ms [.ro, .ro] ?_
  simp
  refine callX_of (w31 G.length F.length 1 (by omega) (by omega) (by omega) (by omega)) (by simp) ?_
  simp [entsO]
  refine ⟨by omega, fun _ => ?_⟩
  refine callW_ms [.ro] ?_
  simp
  refine callX_of (w21 g f (by omega) (by omega)) (by simp) ?_
  simp [entsO]
  refine callW_ms [.ro] ?_
  simp
  refine callX_of (w25 x y) (by simp) ?_
  simp [entT]
  refine callW_ms [.ro, .ro] ?_
  simp
  refine callX_of hI (by simp) ?_
  simp [entsO]
  refine callW_ms [.ro, .ro] ?_
  simp
  refine callX_of (w23 G F G F (by omega) (by omega) (by omega) (by omega)) (by simp) ?_
  simp
  refine callW_ms [.ro, .ro] ?_
  simp
  refine callX_of (w31 G.length F.length 1 (by omega) (by omega) (by omega) (by omega)) (by simp) ?_
  simp [entsO]
  omega
end Go.Proofs.YtlddgmpaaobpoaaT
