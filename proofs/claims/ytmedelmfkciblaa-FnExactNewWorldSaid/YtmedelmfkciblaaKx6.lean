/- Marks on a Reg; NewWorld. -/
import Derived.Test.YtmedelmfkciblaaKx4
import Derived.Test.YtmedelmfkciblaaKh
import Derived.Test.YtmedelmfkciblaaKw2
namespace Go.Proofs.YtmedelmfkciblaaT
set_option linter.unusedVariables false
set_option linter.unusedSimpArgs false
open Go

/- laws.markText -/
def c167 : TCode := (.seq (.ops [⟨(some 2), 4, .mv (.c (.s ⟨#[]⟩)), none, []⟩])
  (.seq (.seq (.ops [⟨(some 4), 6, .mv (.t 0), none, []⟩, ⟨(some 5), 7, .bin .leq (.t 4) (.c (.i .i64 0)), none, []⟩])
  (.cond (.t 5)
  (.seq (.ops [⟨(some 2), 4, .mv (.c (.s ⟨#[109, 48]⟩)), none, []⟩])
  .ret)
  .skip))
  (.seq (.ops [⟨(some 3), 5, .mv (.c (.s ⟨#[]⟩)), none, []⟩])
  (.seq (.block 0 (.loop (.seq (.seq (.ops [⟨(some 6), 8, .mv (.t 0), none, []⟩, ⟨(some 7), 9, .bin .gtr (.t 6) (.c (.i .i64 0)), none, []⟩])
  (.cond (.t 7)
  .skip
  (.exit 0)))
  (.block 1 (.seq (.ops [⟨(some 8), 10, .mv (.t 0), none, []⟩, ⟨(some 9), 11, .bin .rem (.t 8) (.c (.i .i64 10)), none, []⟩, ⟨(some 10), 12, .bin .add (.c (.i .i64 48)) (.t 9), none, []⟩, ⟨(some 11), 13, .toInt .u8 (.t 10), none, []⟩, ⟨(some 12), 14, .bslice 1 1 [(.i .u8 0)] [(0, (.t 11))], none, []⟩, ⟨(some 13), 15, .toS (.t 12), none, []⟩, ⟨(some 14), 16, .mv (.t 3), none, []⟩, ⟨(some 15), 17, .bin .add (.t 13) (.t 14), none, []⟩, ⟨(some 3), 5, .mv (.t 15), none, []⟩])
  (.ops [⟨(some 16), 18, .mv (.t 0), none, []⟩, ⟨(some 17), 19, .bin .quo (.t 16) (.c (.i .i64 10)), none, []⟩, ⟨(some 0), 2, .mv (.t 17), none, []⟩]))))))
  (.seq (.ops [⟨(some 18), 20, .mv (.t 3), none, []⟩, ⟨(some 19), 21, .bin .add (.c (.s ⟨#[109]⟩)) (.t 18), none, []⟩, ⟨(some 2), 4, .mv (.t 19), none, []⟩])
  .ret)))))
theorem k167 : compCode Try.prog Try.f167.ntmps Try.f167.body.get! = some c167 := by kernel_rfl
theorem r167 : resTmps Try.prog Try.f167.results.toList = some [.tmp 2] := by kernel_rfl
/- laws.markDeclS -/
def c126 : TCode := (.seq (.ops [⟨(some 4), 6, .mv (.c (.i .i64 0)), none, []⟩])
  (.seq (.seq (.ops [⟨(some 5), 7, .mv (.c (.i .i64 0)), none, []⟩])
  (.block 0 (.loop (.seq (.seq (.ops [⟨(some 6), 8, .mv (.t 5), none, []⟩, ⟨(some 7), 9, .mv (.t 0), none, []⟩, ⟨(some 8), 10, .len false (.t 7), none, []⟩, ⟨(some 9), 11, .bin .lss (.t 6) (.t 8), none, []⟩])
  (.cond (.t 9)
  .skip
  (.exit 0)))
  (.seq (.block 1 (.seq (.ops [⟨(some 12), 14, .mv (.t 0), none, []⟩, ⟨(some 13), 15, .mv (.t 5), none, []⟩, ⟨(some 14), 16, .mv (.t 1), none, []⟩, ⟨(some 15), 17, .call 167 [((.t 14), 0)], none, []⟩, ⟨(some 16), 18, .iaddr 2 (.t 12) (.t 13), none, []⟩, ⟨(some 17), 19, .faddr 0 1 (.t 16), none, []⟩, ⟨none, 1004006, .store 1 (.t 17) (.t 15), none, []⟩])
  (.seq (.ops [⟨(some 18), 20, .mv (.t 1), none, []⟩, ⟨(some 19), 21, .bin .add (.t 18) (.c (.i .i64 1)), none, []⟩, ⟨(some 1), 3, .mv (.t 19), none, []⟩])
  (.seq (.ops [⟨(some 20), 22, .mv (.t 0), none, []⟩, ⟨(some 21), 23, .mv (.t 5), none, []⟩, ⟨(some 22), 24, .mv (.t 1), none, []⟩, ⟨(some 23), 25, .iaddr 2 (.t 20) (.t 21), none, []⟩, ⟨(some 24), 26, .faddr 1 1 (.t 23), none, []⟩, ⟨none, 1006005, .store 1 (.t 24) (.t 22), none, []⟩])
  (.ops [⟨(some 25), 27, .mv (.t 1), none, []⟩, ⟨(some 26), 28, .bin .add (.t 25) (.c (.i .i64 1)), none, []⟩, ⟨(some 1), 3, .mv (.t 26), none, []⟩])))))
  (.ops [⟨(some 10), 12, .mv (.t 5), none, []⟩, ⟨(some 11), 13, .bin .add (.t 10) (.c (.i .i64 1)), none, []⟩, ⟨(some 5), 7, .mv (.t 11), none, []⟩]))))))
  (.seq (.ops [⟨(some 27), 29, .mv (.t 1), none, []⟩, ⟨(some 4), 6, .mv (.t 27), none, []⟩])
  .ret)))
theorem k126 : compCode Try.prog Try.f126.ntmps Try.f126.body.get! = some c126 := by kernel_rfl
theorem r126 : resTmps Try.prog Try.f126.results.toList = some [.tmp 4] := by kernel_rfl
/- laws.markReg -/
def c66 : TCode := (.seq (.ops [⟨(some 2), 4, .box 3 (.t 0), none, []⟩, ⟨(some 4), 6, .mv (.c (.i .i64 0)), none, []⟩])
  (.seq (.ops [⟨(some 5), 7, .faddr 0 1 (.t 2), none, []⟩, ⟨(some 6), 8, .load false 1 (.t 5), none, []⟩, ⟨(some 7), 9, .mv (.t 1), none, []⟩, ⟨(some 8), 10, .call 126 [((.t 6), 0), ((.t 7), 0)], none, []⟩, ⟨(some 1), 3, .mv (.t 8), none, []⟩])
  (.seq (.ops [⟨(some 9), 11, .faddr 1 1 (.t 2), none, []⟩, ⟨(some 10), 12, .load false 1 (.t 9), none, []⟩, ⟨(some 11), 13, .mv (.t 1), none, []⟩, ⟨(some 12), 14, .call 126 [((.t 10), 0), ((.t 11), 0)], none, []⟩, ⟨(some 1), 3, .mv (.t 12), none, []⟩])
  (.seq (.ops [⟨(some 13), 15, .faddr 2 1 (.t 2), none, []⟩, ⟨(some 14), 16, .load false 1 (.t 13), none, []⟩, ⟨(some 15), 17, .mv (.t 1), none, []⟩, ⟨(some 16), 18, .call 126 [((.t 14), 0), ((.t 15), 0)], none, []⟩, ⟨(some 1), 3, .mv (.t 16), none, []⟩])
  (.seq (.ops [⟨(some 17), 19, .mv (.t 1), none, []⟩, ⟨(some 4), 6, .mv (.t 17), none, []⟩])
  .ret)))))
theorem k66 : compCode Try.prog Try.f66.ntmps Try.f66.body.get! = some c66 := by kernel_rfl
theorem r66 : resTmps Try.prog Try.f66.results.toList = some [.tmp 4] := by kernel_rfl
/- spec.NewWorld -/
def c64 : TCode := (.seq (.ops [⟨(some 1), 3, .box 3 (.t 0), none, []⟩, ⟨(some 2), 4, .box 4 (.c (.ag [(.sl true 1 []), (.sl true 1 []), (.sl true 3 []), (.sl true 4 [])])), none, []⟩])
  (.seq (.seq (.ops [⟨(some 5), 7, .load true 3 (.t 1), none, []⟩, ⟨(some 6), 8, .call 84 [((.t 5), 0)], none, []⟩, ⟨(some 7), 9, .un .not (.t 6), none, []⟩])
  (.cond (.t 7)
  (.seq (.ops [⟨(some 8), 10, .build [(.sl true 1 []), (.sl true 1 []), (.sl true 3 []), (.sl true 4 [])] [], none, []⟩, ⟨none, 1002001, .store 4 (.t 2) (.t 8), none, []⟩])
  .ret)
  .skip))
  (.seq (.ops [⟨(some 9), 11, .build [(.sl true 1 []), (.sl true 1 []), (.sl true 3 []), (.sl true 4 [])] [], none, []⟩, ⟨(some 3), 5, .box 4 (.c (.ag [(.sl true 1 []), (.sl true 1 []), (.sl true 3 []), (.sl true 4 [])])), none, []⟩, ⟨none, 1003002, .store 4 (.t 3) (.t 9), none, []⟩])
  (.seq (.seq (.ops [⟨(some 4), 6, .mv (.c (.i .i64 0)), none, []⟩])
  (.block 0 (.loop (.seq (.seq (.ops [⟨(some 10), 12, .mv (.t 4), none, []⟩, ⟨(some 11), 13, .faddr 1 1 (.t 1), none, []⟩, ⟨(some 12), 14, .load false 1 (.t 11), none, []⟩, ⟨(some 13), 15, .len false (.t 12), none, []⟩, ⟨(some 14), 16, .bin .lss (.t 10) (.t 13), none, []⟩])
  (.cond (.t 14)
  .skip
  (.exit 0)))
  (.seq (.block 1 (.draw [⟨(some 17), 19, .faddr 3 1 (.t 3), none, []⟩, ⟨(some 18), 20, .load false 1 (.t 17), none, []⟩, ⟨(some 19), 21, .faddr 1 1 (.t 1), none, []⟩, ⟨(some 20), 22, .load false 1 (.t 19), none, []⟩, ⟨(some 21), 23, .mv (.t 4), none, []⟩, ⟨(some 22), 24, .iaddr 2 (.t 20) (.t 21), none, []⟩, ⟨(some 23), 25, .faddr 1 1 (.t 22), none, []⟩, ⟨(some 24), 26, .load false 1 (.t 23), none, []⟩, ⟨(some 25), 27, .call 124 [((.t 24), 0)], none, [0, 1]⟩, ⟨(some 26), 28, .bslice 4 1 [(.i .i64 0), (.i .i64 0), (.f 0), (.f 0)] [(0, (.t 25))], none, [0, 1]⟩, ⟨(some 27), 29, .app 4 32 (.t 18) (.t 26), none, []⟩, ⟨(some 28), 30, .faddr 3 1 (.t 3), none, []⟩, ⟨none, 1007012, .store 1 (.t 28) (.t 27), none, []⟩]))
  (.ops [⟨(some 15), 17, .mv (.t 4), none, []⟩, ⟨(some 16), 18, .bin .add (.t 15) (.c (.i .i64 1)), none, []⟩, ⟨(some 4), 6, .mv (.t 16), none, []⟩]))))))
  (.seq (.ops [⟨(some 29), 31, .load true 4 (.t 3), none, []⟩, ⟨none, 1008001, .store 4 (.t 2) (.t 29), none, []⟩])
  .ret)))))
theorem k64 : compCode Try.prog Try.f64.ntmps Try.f64.body.get! = some c64 := by kernel_rfl
theorem r64 : resTmps Try.prog Try.f64.results.toList = some [.cell 2 true 4] := by kernel_rfl
/- impl.NewWorld -/
def c65 : TCode := (.seq (.ops [⟨(some 1), 3, .box 3 (.t 0), none, []⟩, ⟨(some 2), 4, .box 4 (.c (.ag [(.sl true 1 []), (.sl true 1 []), (.sl true 3 []), (.sl true 4 [])])), none, []⟩])
  (.seq (.ops [⟨(some 6), 8, .build [(.sl true 1 []), (.sl true 1 []), (.sl true 3 []), (.sl true 4 [])] [], none, []⟩, ⟨(some 3), 5, .box 4 (.c (.ag [(.sl true 1 []), (.sl true 1 []), (.sl true 3 []), (.sl true 4 [])])), none, []⟩, ⟨none, 1001002, .store 4 (.t 3) (.t 6), none, []⟩])
  (.seq (.seq (.ops [⟨(some 7), 9, .load true 3 (.t 1), none, []⟩, ⟨(some 8), 10, .call 91 [((.t 7), 0)], none, []⟩, ⟨(some 9), 11, .un .not (.t 8), none, []⟩])
  (.cond (.t 9)
  (.seq (.ops [⟨(some 10), 12, .load true 4 (.t 3), none, []⟩, ⟨none, 1003001, .store 4 (.t 2) (.t 10), none, []⟩])
  .ret)
  .skip))
  (.seq (.seq (.ops [⟨(some 11), 13, .faddr 1 1 (.t 1), none, []⟩, ⟨(some 12), 14, .load false 1 (.t 11), none, []⟩, ⟨(some 13), 15, .len false (.t 12), none, []⟩, ⟨(some 14), 16, .mv (.c (.i .i64 0)), none, []⟩])
  (.block 0 (.loop (.seq (.ops [⟨(some 15), 17, .bin .lss (.t 14) (.t 13), none, []⟩])
  (.seq (.cond (.t 15)
  .skip
  (.exit 0))
  (.seq (.block 1 (.seq (.ops [⟨(some 16), 18, .iaddr 2 (.t 12) (.t 14), none, []⟩, ⟨(some 17), 19, .load true 2 (.t 16), none, []⟩, ⟨(some 5), 7, .box 2 (.c (.ag [(.s ⟨#[]⟩), (.i .i64 0)])), none, []⟩, ⟨none, 1006003, .store 2 (.t 5) (.t 17), none, []⟩])
  (.draw [⟨(some 18), 20, .faddr 3 1 (.t 3), none, []⟩, ⟨(some 19), 21, .load false 1 (.t 18), none, []⟩, ⟨(some 20), 22, .faddr 1 1 (.t 5), none, []⟩, ⟨(some 21), 23, .load false 1 (.t 20), none, []⟩, ⟨(some 22), 24, .call 125 [((.t 21), 0)], none, [0, 1]⟩, ⟨(some 23), 25, .bslice 4 1 [(.i .i64 0), (.i .i64 0), (.f 0), (.f 0)] [(0, (.t 22))], none, [0, 1]⟩, ⟨(some 24), 26, .app 4 32 (.t 19) (.t 23), none, []⟩, ⟨(some 25), 27, .faddr 3 1 (.t 3), none, []⟩, ⟨none, 1007008, .store 1 (.t 25) (.t 24), none, []⟩])))
  (.ops [⟨(some 26), 28, .bin .add (.t 14) (.c (.i .i64 1)), none, []⟩, ⟨(some 14), 16, .mv (.t 26), none, []⟩])))))))
  (.seq (.ops [⟨(some 27), 29, .load true 4 (.t 3), none, []⟩, ⟨none, 1009001, .store 4 (.t 2) (.t 27), none, []⟩])
  .ret)))))
theorem k65 : compCode Try.prog Try.f65.ntmps Try.f65.body.get! = some c65 := by kernel_rfl
theorem r65 : resTmps Try.prog Try.f65.results.toList = some [.cell 2 true 4] := by kernel_rfl
/- laws.FnExactNewWorld -/
def c12 : TCode := (.seq (.ops [⟨(some 1), 3, .box 3 (.t 0), none, []⟩, ⟨(some 2), 4, .mv (.c (.b false)), none, []⟩])
  (.seq (.ops [⟨(some 3), 5, .mv (.c (.i .i64 1048576)), none, []⟩])
  (.seq (.ops [⟨(some 11), 13, .load true 3 (.t 1), none, []⟩, ⟨(some 12), 14, .mv (.t 3), none, []⟩, ⟨(some 13), 15, .call 41 [((.t 11), 0), ((.t 12), 0)], none, []⟩, ⟨(some 3), 5, .mv (.t 13), none, []⟩])
  (.seq (.seq (.ops [⟨(some 14), 16, .mv (.t 3), none, []⟩, ⟨(some 15), 17, .bin .lss (.t 14) (.c (.i .i64 0)), none, []⟩])
  (.cond (.t 15)
  (.seq (.ops [⟨(some 2), 4, .mv (.c (.b true)), none, []⟩])
  .ret)
  .skip))
  (.seq (.ops [⟨(some 16), 18, .load true 3 (.t 1), none, []⟩, ⟨(some 17), 19, .call 44 [((.t 16), 0)], none, []⟩, ⟨(some 18), 20, .call 64 [((.t 17), 0)], none, []⟩, ⟨(some 4), 6, .box 4 (.c (.ag [(.sl true 1 []), (.sl true 1 []), (.sl true 3 []), (.sl true 4 [])])), none, []⟩, ⟨none, 1005004, .store 4 (.t 4) (.t 18), none, []⟩])
  (.seq (.ops [⟨(some 19), 21, .load true 3 (.t 1), none, []⟩, ⟨(some 20), 22, .call 44 [((.t 19), 0)], none, []⟩, ⟨(some 5), 7, .box 3 (.c (.ag [(.sl true 2 []), (.sl true 2 []), (.sl true 2 [])])), none, []⟩, ⟨none, 1006003, .store 3 (.t 5) (.t 20), none, []⟩])
  (.seq (.ops [⟨(some 21), 23, .load true 3 (.t 5), none, []⟩, ⟨(some 22), 24, .call 65 [((.t 21), 0)], none, []⟩, ⟨(some 6), 8, .box 4 (.c (.ag [(.sl true 1 []), (.sl true 1 []), (.sl true 3 []), (.sl true 4 [])])), none, []⟩, ⟨none, 1007003, .store 4 (.t 6) (.t 22), none, []⟩])
  (.seq (.seq (.ops [⟨(some 23), 25, .load true 4 (.t 6), none, []⟩, ⟨(some 24), 26, .load true 4 (.t 4), none, []⟩, ⟨(some 25), 27, .call 55 [((.t 23), 0), ((.t 24), 0)], none, []⟩, ⟨(some 26), 28, .un .not (.t 25), none, []⟩])
  (.cond (.t 26)
  (.seq (.ops [⟨(some 2), 4, .mv (.c (.b false)), none, []⟩])
  .ret)
  .skip))
  (.seq (.seq (.draw [⟨(some 27), 29, .load true 3 (.t 5), none, []⟩, ⟨(some 28), 30, .load true 3 (.t 1), none, []⟩, ⟨(some 29), 31, .call 44 [((.t 28), 0)], none, [0]⟩, ⟨(some 30), 32, .call 47 [((.t 27), 0), ((.t 29), 0)], none, []⟩, ⟨(some 31), 33, .un .not (.t 30), none, []⟩])
  (.cond (.t 31)
  (.seq (.ops [⟨(some 2), 4, .mv (.c (.b false)), none, []⟩])
  .ret)
  .skip))
  (.seq (.ops [⟨(some 7), 9, .mv (.c (.i .i64 1)), none, []⟩])
  (.seq (.ops [⟨(some 32), 34, .load true 3 (.t 5), none, []⟩, ⟨(some 33), 35, .mv (.t 7), none, []⟩, ⟨(some 34), 36, .call 66 [((.t 32), 0), ((.t 33), 0)], none, []⟩, ⟨(some 7), 9, .mv (.t 34), none, []⟩])
  (.seq (.seq (.ops [⟨(some 35), 37, .mv (.t 7), none, []⟩, ⟨(some 36), 38, .bin .lss (.t 35) (.c (.i .i64 0)), none, []⟩, ⟨(some 37), 39, .mv (.t 36), none, []⟩, ⟨(some 38), 40, .load true 4 (.t 6), (some (37, false)), []⟩, ⟨(some 39), 41, .load true 4 (.t 4), (some (37, false)), []⟩, ⟨(some 40), 42, .call 55 [((.t 38), 0), ((.t 39), 0)], (some (37, false)), []⟩, ⟨(some 41), 43, .un .not (.t 40), (some (37, false)), []⟩, ⟨(some 42), 44, .pick (.t 37) (.c (.b true)) (.t 41), none, []⟩])
  (.cond (.t 42)
  (.seq (.ops [⟨(some 2), 4, .mv (.c (.b false)), none, []⟩])
  .ret)
  .skip))
  (.seq (.ops [⟨(some 8), 10, .mv (.c (.i .i64 1)), none, []⟩])
  (.seq (.ops [⟨(some 43), 45, .load true 4 (.t 6), none, []⟩, ⟨(some 44), 46, .mv (.t 8), none, []⟩, ⟨(some 45), 47, .call 56 [((.t 43), 0), ((.t 44), 0)], none, []⟩, ⟨(some 8), 10, .mv (.t 45), none, []⟩])
  (.seq (.ops [⟨(some 9), 11, .mv (.c (.i .i64 1)), none, []⟩])
  (.seq (.ops [⟨(some 46), 48, .load true 4 (.t 6), none, []⟩, ⟨(some 47), 49, .mv (.t 9), none, []⟩, ⟨(some 48), 50, .call 67 [((.t 46), 0), ((.t 47), 0)], none, []⟩, ⟨(some 9), 11, .mv (.t 48), none, []⟩])
  (.seq (.seq (.ops [⟨(some 49), 51, .mv (.t 9), none, []⟩, ⟨(some 50), 52, .bin .lss (.t 49) (.c (.i .i64 0)), none, []⟩])
  (.cond (.t 50)
  (.seq (.ops [⟨(some 2), 4, .mv (.c (.b false)), none, []⟩])
  .ret)
  .skip))
  (.seq (.seq (.ops [⟨(some 51), 53, .mv (.t 9), none, []⟩, ⟨(some 52), 54, .mv (.t 8), none, []⟩, ⟨(some 53), 55, .bin .neq (.t 51) (.t 52), none, []⟩])
  (.cond (.t 53)
  (.seq (.ops [⟨(some 2), 4, .mv (.c (.b false)), none, []⟩])
  .ret)
  .skip))
  (.seq (.ops [⟨(some 54), 56, .load true 3 (.t 1), none, []⟩, ⟨(some 55), 57, .call 44 [((.t 54), 0)], none, []⟩, ⟨(some 56), 58, .call 65 [((.t 55), 0)], none, []⟩, ⟨(some 10), 12, .box 4 (.c (.ag [(.sl true 1 []), (.sl true 1 []), (.sl true 3 []), (.sl true 4 [])])), none, []⟩, ⟨none, 1024004, .store 4 (.t 10) (.t 56), none, []⟩])
  (.seq (.seq (.ops [⟨(some 57), 59, .load true 4 (.t 10), none, []⟩, ⟨(some 58), 60, .load true 4 (.t 4), none, []⟩, ⟨(some 59), 61, .call 55 [((.t 57), 0), ((.t 58), 0)], none, []⟩, ⟨(some 60), 62, .un .not (.t 59), none, []⟩])
  (.cond (.t 60)
  (.seq (.ops [⟨(some 2), 4, .mv (.c (.b false)), none, []⟩])
  .ret)
  .skip))
  (.seq (.ops [⟨(some 9), 11, .mv (.c (.i .i64 1)), none, []⟩])
  (.seq (.ops [⟨(some 61), 63, .load true 4 (.t 6), none, []⟩, ⟨(some 62), 64, .mv (.t 9), none, []⟩, ⟨(some 63), 65, .call 67 [((.t 61), 0), ((.t 62), 0)], none, []⟩, ⟨(some 9), 11, .mv (.t 63), none, []⟩])
  (.seq (.seq (.ops [⟨(some 64), 66, .mv (.t 9), none, []⟩, ⟨(some 65), 67, .bin .lss (.t 64) (.c (.i .i64 0)), none, []⟩])
  (.cond (.t 65)
  (.seq (.ops [⟨(some 2), 4, .mv (.c (.b false)), none, []⟩])
  .ret)
  .skip))
  (.seq (.seq (.ops [⟨(some 66), 68, .mv (.t 9), none, []⟩, ⟨(some 67), 69, .mv (.t 8), none, []⟩, ⟨(some 68), 70, .bin .neq (.t 66) (.t 67), none, []⟩])
  (.cond (.t 68)
  (.seq (.ops [⟨(some 2), 4, .mv (.c (.b false)), none, []⟩])
  .ret)
  .skip))
  (.seq (.ops [⟨(some 2), 4, .mv (.c (.b true)), none, []⟩])
  .ret)))))))))))))))))))))))))
theorem k12 : compCode Try.prog Try.f12.ntmps Try.f12.body.get! = some c12 := by kernel_rfl
theorem r12 : resTmps Try.prog Try.f12.results.toList = some [.tmp 2] := by kernel_rfl

theorem w167 (k : Int) (hk : k ≤ 2^40) : ∃ x : ByteArray, (True) ∧ Contract Try.prog false 167 [.ro] [.i .i64 k] [.s x] [] := by
  refine mk_contractE [] Try.func167 (c := Try.f167.body.get!) (by kernel_rfl) k167 r167 (of_decide_eq_true rfl) ?_
  unfold c167; simp
  refine ⟨fun h => ?_, fun h => ?_⟩
  · refine exK_of ⟨#[109, 48]⟩ trivial ?_
    simp
  · have hs0 : (⟨#[]⟩ : ByteArray).size = 0 := rfl
    refine twp_loop (fun n s => ∃ (c : Int) (S : ByteArray), 0 ≤ c ∧ c.toNat = n ∧ S.size + c ≤ 2^40 ∧ s.t 0 = .i .i64 c ∧ s.t 3 = .s S ∧ s.H = lk [(1, [])]) [14] (by simp) k.toNat ?_ ?_
    · exact ⟨k, ⟨#[]⟩, by omega, rfl, by rw [hs0]; omega, by simp, by simp, by simp⟩
    · rintro n s ⟨c, S, h0, hn, hS, q0, q3, qH⟩
      rw [nf_of qH]
      simp [q0, q3]
      have hq : IntKind.i64.wrap (c.tdiv 10) = c.tdiv 10 := wrap_id (by rw [Int.tdiv_eq_ediv_of_nonneg h0]; omega) (by rw [Int.tdiv_eq_ediv_of_nonneg h0]; omega)
      have hd : c.tdiv 10 = c / 10 := Int.tdiv_eq_ediv_of_nonneg h0
      have hs1 : ∀ b, (⟨#[b]⟩ : ByteArray).size = 1 := fun _ => rfl
      have hs2 : (⟨#[109]⟩ : ByteArray).size = 1 := rfl
      refine ⟨fun hp => ?_, fun hp => ?_⟩
      · simp [elemsOf, bytesT, q0, q3, hq, hs1]
        refine ⟨by omega, (c.tdiv 10).toNat, by omega, _, ⟨by omega, rfl, ?_, rfl⟩⟩
        omega
      · refine ⟨by rw [hs2]; omega, exK_of (⟨#[109]⟩ ++ S) trivial ?_⟩
        simp
theorem w126 (l : List (ByteArray × Int)) (k : Int) (hl : l.length ≤ 2^36) (hk : 0 ≤ k) (hk2 : k + 2 * l.length ≤ 2^39) : ∃ x : List (ByteArray × Int), (x.length = l.length) ∧ Contract Try.prog false 126 [.own, .ro] [.sl true 2 (l.map dT), .i .i64 k] [.i .i64 (k + 2 * l.length)] [some (.sl true 2 (x.map dT))] := by
  refine mk_contractE [some [(1, 0)]] Try.func126 (c := Try.f126.body.get!) (by kernel_rfl) k126 r126 (of_decide_eq_true rfl) ?_
  unfold c126; simp
  refine twp_for l.length (fun j s => ∃ x : List (ByteArray × Int), x.length = j ∧ s.t 0 = .rf [(1, 0)] 0 l.length ∧ s.t 1 = .i .i64 (k + 2 * j) ∧ s.t 5 = .i .i64 j ∧ s.H = lk [(1, [.sl true 2 (x.map dT ++ (l.map dT).drop j)])]) [] (by simp) ?_ ?_
  · exact ⟨[], rfl, by simp, by simp, by simp, by simp⟩
  · rintro j s hj ⟨X, hX, q0, q1, q5, qH⟩
    rw [nf_of qH]
    simp [q0, q1, q5]
    refine ⟨fun hlt => ?_, fun hge => ?_⟩
    · have hw : IntKind.i64.wrap (j + 1) = j + 1 := wrap_id (by omega) (by omega)
      obtain ⟨x, hx⟩ := get_some hlt
      have hw1 : IntKind.i64.wrap (k + 2 * j + 1) = k + 2 * j + 1 := wrap_id (by omega) (by omega)
      have hw2 : IntKind.i64.wrap (k + 2 * j + 1 + 1) = k + 2 * (j + 1) := by rw [wrap_id (by omega) (by omega)]; omega
      obtain ⟨m, _, hC⟩ := w167 (k + 2 * j) (by omega)
      refine callW_ms [.ro] ?_
      simp
      refine callX_of hC (by simp) ?_
      simp [hw, hw1, hw2, q0, q1, q5, drop_at hx, hX]
      exact ⟨hlt, X ++ [(m, k + 2 * j + 1)], by simp [hX], by simp⟩
    · obtain rfl : j = l.length := by omega
      refine exK_of X hX ?_
      simp [q0, q1, q5, hX]
theorem w66 (c r e : List (ByteArray × Int)) (k : Int) (hc : c.length ≤ 2^30) (hr : r.length ≤ 2^30) (he : e.length ≤ 2^30) (hk : 0 ≤ k) (hk2 : k ≤ 2^38) : ∃ x : List (ByteArray × Int) × List (ByteArray × Int) × List (ByteArray × Int), (x.1.length = c.length ∧ x.2.1.length = r.length ∧ x.2.2.length = e.length) ∧ Contract Try.prog false 66 [.own, .ro] [regO c r e, .i .i64 k] [.i .i64 (k + 2 * c.length + 2 * r.length + 2 * e.length)] [some (.sl true 2 (x.1.map dT)), some (.sl true 2 (x.2.1.map dT)), some (.sl true 2 (x.2.2.map dT))] := by
  refine mk_contractE [some [(4, 0), (0, 0)], some [(4, 0), (0, 1)], some [(4, 0), (0, 2)]] Try.func66 (c := Try.f66.body.get!) (by kernel_rfl) k66 r66 (of_decide_eq_true rfl) ?_
  unfold c66; unfold regO; simp
  obtain ⟨c', h1, hC⟩ := w126 c k (by omega) (by omega) (by omega)
  refine callW_ms [.own, .ro] ?_
  simp
  refine callX_of hC (by simp) ?_
  simp [h1]
  obtain ⟨r', h2, hC⟩ := w126 r (k + 2 * c.length) (by omega) (by omega) (by omega)
  refine callW_ms [.own, .ro] ?_
  simp
  refine callX_of hC (by simp) ?_
  simp [h2]
  obtain ⟨e', h3, hC⟩ := w126 e (k + 2 * c.length + 2 * r.length) (by omega) (by omega) (by omega)
  refine callW_ms [.own, .ro] ?_
  simp
  refine callX_of hC (by simp) ?_
  simp [h3]
  refine exK_of (c', r', e') ⟨h1, h2, h3⟩ ?_
  simp
def newRes (l : List (ByteArray × Int)) : List ValP := l.map fun d => zeroV d.2
@[simp] theorem newRes_nil : newRes [] = [] := rfl
@[simp] theorem newRes_len (l : List (ByteArray × Int)) : (newRes l).length = l.length := by simp [newRes]
noncomputable def newW (c r e : List (ByteArray × Int)) : WorldP := ([], [], [], if RegOkP c r e then newRes r else [])
theorem newW_t {c r e : List (ByteArray × Int)} (h : RegOkP c r e) : newW c r e = ([], [], [], newRes r) := by unfold newW; rw [if_pos h]
theorem newW_f {c r e : List (ByteArray × Int)} (h : ¬ RegOkP c r e) : newW c r e = ([], [], [], []) := by unfold newW; rw [if_neg h]
theorem zmap_at {r : List (ByteArray × Int)} {d : ByteArray × Int} {j : Nat} (h : r[j]? = some d) : newRes (r.take (j + 1)) = newRes (r.take j) ++ [zeroV d.2] := by
  rw [take_snoc h]; simp [newRes]
theorem w64 (c r e : List (ByteArray × Int)) (hc : c.length ≤ 2^40) (hr : r.length ≤ 2^40) (he : e.length ≤ 2^40) : Contract Try.prog false 64 [.ro] [regR c r e] [worldO (newW c r e).1 (newW c r e).2.1 (newW c r e).2.2.1 (newW c r e).2.2.2] [] := by
  refine mk_contract [] Try.func64 (c := Try.f64.body.get!) (by kernel_rfl) k64 r64 (of_decide_eq_true rfl) fun _ => ?_
  unfold c64; unfold regR; simp
  by_cases hR : RegOkP c r e
  · rw [newW_t hR]
    refine callW_ms [.ro] ?_
    simp [regR]
    refine callX_of ((w84 c r e hc hr he).t hR) (by simp) ?_
    simp
    refine twp_for r.length (fun j s => s.t 1 = .pt [(3, 0)] 0 0 ∧ s.t 2 = .pt [(4, 0)] 0 0 ∧ s.t 3 = .pt [(5, 0)] 0 0 ∧ s.t 4 = .i .i64 j ∧ s.H = lk [(1, []), (3, [.po true [.sl false 2 (c.map dT), .sl false 2 (r.map dT), .sl false 2 (e.map dT)]]), (4, [.po true [.sl true 1 [], .sl true 1 [], .sl true 3 [], .sl true 4 []]]), (5, [.po true [.sl true 1 [], .sl true 1 [], .sl true 3 [], .sl true 4 ((newRes (r.take j)).map vT)]])]) [28, 29] (by simp) ?_ ?_
    · simp
    · rintro j s hj ⟨q1, q2, q3, q4, qH⟩
      rw [nf_of qH]
      simp [q1, q2, q3, q4]
      refine ⟨fun hlt => ?_, fun hge => ?_⟩
      · have hw : IntKind.i64.wrap (j + 1) = j + 1 := wrap_id (by omega) (by omega)
        obtain ⟨d, hd⟩ := get_some hlt
        have hz := zmap_at hd
        simp [hd, hw, q1, q2, q3, q4]
        refine callW_ms [.ro] ?_
        simp
        refine callX_of (w124 d.2) (by simp) ?_
        simp [valV, hw, q1, q2, q3, q4, hz]
        exact ⟨by omega, hlt⟩
      · obtain rfl : j = r.length := by omega
        simp [q1, q2, q3, q4]
  · rw [newW_f hR]
    refine callW_ms [.ro] ?_
    simp [regR]
    refine callX_of ((w84 c r e hc hr he).f hR) (by simp) ?_
    simp
theorem w65 (c r e : List (ByteArray × Int)) (hc : c.length ≤ 2^40) (hr : r.length ≤ 2^40) (he : e.length ≤ 2^40) (hs : ∀ l ∈ [c, r, e], ∀ d ∈ l, d.1.size ≤ 2^40) : Contract Try.prog false 65 [.ro] [regR c r e] [worldO (newW c r e).1 (newW c r e).2.1 (newW c r e).2.2.1 (newW c r e).2.2.2] [] := by
  refine mk_contract [] Try.func65 (c := Try.f65.body.get!) (by kernel_rfl) k65 r65 (of_decide_eq_true rfl) fun _ => ?_
  unfold c65; unfold regR; simp
  by_cases hR : RegOkP c r e
  · rw [newW_t hR]
    refine callW_ms [.ro] ?_
    simp [regR]
    refine callX_of ((w91 c r e hc hr he hs).t hR) (by simp) ?_
    simp
    refine twp_for r.length (fun j s => s.t 1 = .pt [(3, 0)] 0 0 ∧ s.t 2 = .pt [(4, 0)] 0 0 ∧ s.t 3 = .pt [(5, 0)] 0 0 ∧ s.t 12 = .sl false 2 (r.map dT) ∧ s.t 13 = .i .i64 r.length ∧ s.t 14 = .i .i64 j ∧ s.H = lk [(1, []), (3, [.po true [.sl false 2 (c.map dT), .sl false 2 (r.map dT), .sl false 2 (e.map dT)]]), (4, [.po true [.sl true 1 [], .sl true 1 [], .sl true 3 [], .sl true 4 []]]), (5, [.po true [.sl true 1 [], .sl true 1 [], .sl true 3 [], .sl true 4 ((newRes (r.take j)).map vT)]])]) [25, 26, 7] (by simp) ?_ ?_
    · simp
    · rintro j s hj ⟨q1, q2, q3, q12, q13, q14, qH⟩
      rw [nf_of qH]
      simp [q1, q2, q3, q12, q13, q14]
      refine ⟨fun hlt => ?_, fun hge => ?_⟩
      · have hw : IntKind.i64.wrap (j + 1) = j + 1 := wrap_id (by omega) (by omega)
        obtain ⟨d, hd⟩ := get_some hlt
        have hz := zmap_at hd
        simp [hd, hw, q1, q2, q3, q12, q13, q14]
        refine callW_ms [.ro] ?_
        simp
        refine callX_of (w125 d.2) (by simp) ?_
        simp [valV, hw, q1, q2, q3, q12, q13, q14, hz]
        exact ⟨by omega, hlt⟩
      · obtain rfl : j = r.length := by omega
        simp [q1, q2, q3, q12, q13, q14]
  · rw [newW_f hR]
    refine callW_ms [.ro] ?_
    simp [regR]
    refine callX_of ((w91 c r e hc hr he hs).f hR) (by simp) ?_
    simp
theorem newW_ok {c r e : List (ByteArray × Int)} (h : r.length ≤ 2^36) : okW (newW c r e) := by
  unfold newW; split <;> simp [okW, h]
theorem newW_n {c r e : List (ByteArray × Int)} : nW (newW c r e) ≤ 4 * r.length := by
  unfold newW; split <;> simp [nW, sumN]
theorem w12 (c r e : List (ByteArray × Int)) (hc : bndD c) (hr : bndD r) (he : bndD e) : Contract Try.prog false 12 [.ro] [regR c r e] [.b true] [] := by
  refine mk_contract [] Try.func12 (c := Try.f12.body.get!) (by kernel_rfl) k12 r12 (of_decide_eq_true rfl) fun _ => ?_
  unfold c12; unfold regR; simp
  refine callW_ms [.ro, .ro] ?_
  simp [regR]
  refine callX_of (w41 c r e _ hc hr he (by omega) (by omega)) (by simp) ?_
  simp
  intro h
  obtain ⟨-, -, hok⟩ := szRegF_ok (k := 2^20) (by omega) (by omega) (by omega : ¬ szRegF c r e 1048576 < 0)
  obtain ⟨hc2, hr2, he2⟩ := id hok
  have hall := okD_all ⟨okD_mono hok.1 (by omega : 2^20 ≤ 2^40), okD_mono hok.2.1 (by omega), okD_mono hok.2.2 (by omega)⟩
  have := hc2.1
  have := hr2.1
  have := he2.1
  have hS := w64 c r e (by omega) (by omega) (by omega)
  have hI := w65 c r e (by omega) (by omega) (by omega) hall
  have hk : okW (newW c r e) := newW_ok (by omega)
  have hn := @newW_n c r e
  generalize newW c r e = w at *
  refine callW_ms [.ro] ?_
  simp [regR]
  refine callX_of (w44 c r e (by omega) (by omega) (by omega)) (by simp) ?_
  simp [regO]
  refine callW_ms [.ro] ?_
  simp
  refine callX_of hS (by simp) ?_
  simp
  refine callW_ms [.ro] ?_
  simp [regR]
  refine callX_of (w44 c r e (by omega) (by omega) (by omega)) (by simp) ?_
  simp [regO]
  refine callW_ms [.ro] ?_
  simp
  refine callX_of hI (by simp) ?_
  simp
  refine callW_ms [.ro, .ro] ?_
  simp
  refine callX_of (w55 w hk) (by simp) ?_
  simp
  refine callW_ms [.ro] ?_
  simp [regR]
  refine callX_of (w44 c r e (by omega) (by omega) (by omega)) (by simp) ?_
  simp [regO]
  refine callW_ms [.ro, .ro] ?_
  simp [regR]
  refine callX_of (w47 c r e c r e (by omega) (by omega) (by omega) (by omega) (by omega) (by omega)) (by simp) ?_
  simp
  have hk1 : ¬ (1 + 2 * (c.length : Int) + 2 * r.length + 2 * e.length < 0) := by omega
  obtain ⟨x, ⟨h1, h2, h3⟩, hC⟩ := w66 c r e 1 (by omega) (by omega) (by omega) (by omega) (by omega)
  refine callW_ms [.own, .ro] ?_
  simp [regO]
  refine callX_of hC (by simp) ?_
  simp [hk1, h1, h2, h3]
  refine callW_ms [.ro, .ro] ?_
  simp
  refine callX_of (w55 w hk) (by simp) ?_
  simp
  refine callW_ms [.own, .ro] ?_
  simp
  refine callX_of (w56 w 1 hk (by omega) (by omega)) (by simp) ?_
  simp
  refine callW_ms [.ro, .ro] ?_
  simp
  refine callX_of (w67 w 1 hk (by omega) (by omega)) (by simp) ?_
  simp
  refine ⟨by omega, fun _ => ?_⟩
  refine callW_ms [.ro] ?_
  simp [regR]
  refine callX_of (w44 c r e (by omega) (by omega) (by omega)) (by simp) ?_
  simp [regO]
  refine callW_ms [.ro] ?_
  simp
  refine callX_of hI (by simp) ?_
  simp
  refine callW_ms [.ro, .ro] ?_
  simp
  refine callX_of (w55 w hk) (by simp) ?_
  simp
  refine callW_ms [.ro, .ro] ?_
  simp
  refine callX_of (w67 w 1 hk (by omega) (by omega)) (by simp) ?_
  simp
  omega
end Go.Proofs.YtmedelmfkciblaaT
