/- Cells and commands: sizes, copies, sameness; Spawns. -/
import Derived.Test.YtmedelmfkciblaaKx1
namespace Go.Proofs.YtmedelmfkciblaaT
set_option linter.unusedVariables false
set_option linter.unusedSimpArgs false
open Go

/- laws.szCellS -/
def c83 : TCode := (.seq (.ops [⟨(some 4), 6, .mv (.c (.i .i64 0)), none, []⟩])
  (.seq (.ops [⟨(some 5), 7, .mv (.t 1), none, []⟩, ⟨(some 6), 8, .mv (.t 0), none, []⟩, ⟨(some 7), 9, .len false (.t 6), none, []⟩, ⟨(some 8), 10, .bin .sub (.t 5) (.t 7), none, []⟩, ⟨(some 1), 3, .mv (.t 8), none, []⟩])
  (.seq (.seq (.ops [⟨(some 9), 11, .mv (.t 1), none, []⟩, ⟨(some 10), 12, .bin .lss (.t 9) (.c (.i .i64 0)), none, []⟩])
  (.cond (.t 10)
  (.seq (.ops [⟨(some 4), 6, .mv (.c (.i .i64 (-1))), none, []⟩])
  .ret)
  .skip))
  (.seq (.ops [⟨(some 11), 13, .mv (.t 1), none, []⟩, ⟨(some 4), 6, .mv (.t 11), none, []⟩])
  .ret))))
theorem k83 : compCode Try.prog Try.f83.ntmps Try.f83.body.get! = some c83 := by kernel_rfl
theorem r83 : resTmps Try.prog Try.f83.results.toList = some [.tmp 4] := by kernel_rfl
/- laws.szCmd -/
def c42 : TCode := (.seq (.ops [⟨(some 2), 4, .box 9 (.t 0), none, []⟩, ⟨(some 4), 6, .mv (.c (.i .i64 0)), none, []⟩])
  (.seq (.ops [⟨(some 5), 7, .faddr 8 1 (.t 2), none, []⟩, ⟨(some 6), 8, .load false 1 (.t 5), none, []⟩, ⟨(some 7), 9, .mv (.t 1), none, []⟩, ⟨(some 8), 10, .call 83 [((.t 6), 0), ((.t 7), 0)], none, []⟩, ⟨(some 1), 3, .mv (.t 8), none, []⟩])
  (.seq (.seq (.ops [⟨(some 9), 11, .mv (.t 1), none, []⟩, ⟨(some 10), 12, .bin .lss (.t 9) (.c (.i .i64 0)), none, []⟩])
  (.cond (.t 10)
  (.seq (.ops [⟨(some 4), 6, .mv (.c (.i .i64 (-1))), none, []⟩])
  .ret)
  .skip))
  (.seq (.ops [⟨(some 11), 13, .mv (.t 1), none, []⟩, ⟨(some 4), 6, .mv (.t 11), none, []⟩])
  .ret))))
theorem k42 : compCode Try.prog Try.f42.ntmps Try.f42.body.get! = some c42 := by kernel_rfl
theorem r42 : resTmps Try.prog Try.f42.results.toList = some [.tmp 4] := by kernel_rfl
/- laws.szCmdS -/
def c27 : TCode := (.seq (.ops [⟨(some 4), 6, .mv (.c (.i .i64 0)), none, []⟩])
  (.seq (.ops [⟨(some 6), 8, .mv (.t 1), none, []⟩, ⟨(some 7), 9, .mv (.t 0), none, []⟩, ⟨(some 8), 10, .len false (.t 7), none, []⟩, ⟨(some 9), 11, .bin .sub (.t 6) (.t 8), none, []⟩, ⟨(some 1), 3, .mv (.t 9), none, []⟩])
  (.seq (.seq (.ops [⟨(some 10), 12, .mv (.t 1), none, []⟩, ⟨(some 11), 13, .bin .lss (.t 10) (.c (.i .i64 0)), none, []⟩])
  (.cond (.t 11)
  (.seq (.ops [⟨(some 4), 6, .mv (.c (.i .i64 (-1))), none, []⟩])
  .ret)
  .skip))
  (.seq (.seq (.ops [⟨(some 5), 7, .mv (.c (.i .i64 0)), none, []⟩])
  (.block 0 (.loop (.seq (.seq (.ops [⟨(some 12), 14, .mv (.t 5), none, []⟩, ⟨(some 13), 15, .mv (.t 0), none, []⟩, ⟨(some 14), 16, .len false (.t 13), none, []⟩, ⟨(some 15), 17, .bin .lss (.t 12) (.t 14), none, []⟩])
  (.cond (.t 15)
  .skip
  (.exit 0)))
  (.seq (.block 1 (.seq (.ops [⟨(some 18), 20, .mv (.t 0), none, []⟩, ⟨(some 19), 21, .mv (.t 5), none, []⟩, ⟨(some 20), 22, .iaddr 9 (.t 18) (.t 19), none, []⟩, ⟨(some 21), 23, .load true 9 (.t 20), none, []⟩, ⟨(some 22), 24, .mv (.t 1), none, []⟩, ⟨(some 23), 25, .call 42 [((.t 21), 0), ((.t 22), 0)], none, []⟩, ⟨(some 1), 3, .mv (.t 23), none, []⟩])
  (.seq (.ops [⟨(some 24), 26, .mv (.t 1), none, []⟩, ⟨(some 25), 27, .bin .lss (.t 24) (.c (.i .i64 0)), none, []⟩])
  (.cond (.t 25)
  (.seq (.ops [⟨(some 4), 6, .mv (.c (.i .i64 (-1))), none, []⟩])
  .ret)
  .skip))))
  (.ops [⟨(some 16), 18, .mv (.t 5), none, []⟩, ⟨(some 17), 19, .bin .add (.t 16) (.c (.i .i64 1)), none, []⟩, ⟨(some 5), 7, .mv (.t 17), none, []⟩]))))))
  (.seq (.ops [⟨(some 26), 28, .mv (.t 1), none, []⟩, ⟨(some 4), 6, .mv (.t 26), none, []⟩])
  .ret)))))
theorem k27 : compCode Try.prog Try.f27.ntmps Try.f27.body.get! = some c27 := by kernel_rfl
theorem r27 : resTmps Try.prog Try.f27.results.toList = some [.tmp 4] := by kernel_rfl
/- laws.toCell -/
def c148 : TCode := (.seq (.ops [⟨(some 1), 3, .box 5 (.t 0), none, []⟩, ⟨(some 2), 4, .box 5 (.c (.ag [(.i .i64 0), (.i .i64 0), (.i .i64 0), (.f 0), (.f 0)])), none, []⟩])
  (.seq (.ops [⟨(some 3), 5, .box 5 (.c (.ag [(.i .i64 0), (.i .i64 0), (.i .i64 0), (.f 0), (.f 0)])), none, []⟩])
  (.seq (.ops [⟨(some 4), 6, .faddr 0 1 (.t 1), none, []⟩, ⟨(some 5), 7, .load false 1 (.t 4), none, []⟩, ⟨(some 6), 8, .faddr 0 1 (.t 3), none, []⟩, ⟨none, 1002003, .store 1 (.t 6) (.t 5), none, []⟩])
  (.seq (.ops [⟨(some 7), 9, .faddr 1 4 (.t 1), none, []⟩, ⟨(some 8), 10, .load true 4 (.t 7), none, []⟩, ⟨(some 9), 11, .call 89 [((.t 8), 0)], none, []⟩, ⟨(some 10), 12, .faddr 1 4 (.t 3), none, []⟩, ⟨none, 1003004, .store 4 (.t 10) (.t 9), none, []⟩])
  (.seq (.ops [⟨(some 11), 13, .load true 5 (.t 3), none, []⟩, ⟨none, 1004001, .store 5 (.t 2) (.t 11), none, []⟩])
  .ret)))))
theorem k148 : compCode Try.prog Try.f148.ntmps Try.f148.body.get! = some c148 := by kernel_rfl
theorem r148 : resTmps Try.prog Try.f148.results.toList = some [.cell 2 true 5] := by kernel_rfl
/- laws.toCellS -/
def c90 : TCode := (.seq (.ops [⟨(some 2), 4, .mv (.c (.sl true 5 [])), none, []⟩])
  (.seq (.ops [⟨(some 5), 7, .mv (.t 0), none, []⟩, ⟨(some 6), 8, .len false (.t 5), none, []⟩, ⟨(some 7), 9, .mkslice 5 40 [(.i .i64 0), (.i .i64 0), (.i .i64 0), (.f 0), (.f 0)] (.t 6) (.t 6), none, []⟩, ⟨(some 3), 5, .mv (.t 7), none, []⟩])
  (.seq (.seq (.ops [⟨(some 4), 6, .mv (.c (.i .i64 0)), none, []⟩])
  (.block 0 (.loop (.seq (.seq (.ops [⟨(some 8), 10, .mv (.t 4), none, []⟩, ⟨(some 9), 11, .mv (.t 0), none, []⟩, ⟨(some 10), 12, .len false (.t 9), none, []⟩, ⟨(some 11), 13, .bin .lss (.t 8) (.t 10), none, []⟩])
  (.cond (.t 11)
  .skip
  (.exit 0)))
  (.seq (.block 1 (.ops [⟨(some 14), 16, .mv (.t 3), none, []⟩, ⟨(some 15), 17, .mv (.t 4), none, []⟩, ⟨(some 16), 18, .mv (.t 0), none, []⟩, ⟨(some 17), 19, .mv (.t 4), none, []⟩, ⟨(some 18), 20, .iaddr 5 (.t 16) (.t 17), none, []⟩, ⟨(some 19), 21, .load true 5 (.t 18), none, []⟩, ⟨(some 20), 22, .call 148 [((.t 19), 0)], none, []⟩, ⟨(some 21), 23, .iaddr 5 (.t 14) (.t 15), none, []⟩, ⟨none, 1005008, .store 5 (.t 21) (.t 20), none, []⟩]))
  (.ops [⟨(some 12), 14, .mv (.t 4), none, []⟩, ⟨(some 13), 15, .bin .add (.t 12) (.c (.i .i64 1)), none, []⟩, ⟨(some 4), 6, .mv (.t 13), none, []⟩]))))))
  (.seq (.ops [⟨(some 22), 24, .mv (.t 3), none, []⟩, ⟨(some 2), 4, .mv (.t 22), none, []⟩])
  .ret))))
theorem k90 : compCode Try.prog Try.f90.ntmps Try.f90.body.get! = some c90 := by kernel_rfl
theorem r90 : resTmps Try.prog Try.f90.results.toList = some [.tmp 2] := by kernel_rfl
/- laws.toCmd -/
def c45 : TCode := (.seq (.ops [⟨(some 1), 3, .box 9 (.t 0), none, []⟩, ⟨(some 2), 4, .box 9 (.c (.ag [(.i .i64 0), (.i .i64 0), (.i .i64 0), (.i .i64 0), (.i .i64 0), (.i .i64 0), (.f 0), (.f 0), (.sl true 5 [])])), none, []⟩])
  (.seq (.ops [⟨(some 3), 5, .box 9 (.c (.ag [(.i .i64 0), (.i .i64 0), (.i .i64 0), (.i .i64 0), (.i .i64 0), (.i .i64 0), (.f 0), (.f 0), (.sl true 5 [])])), none, []⟩])
  (.seq (.ops [⟨(some 4), 6, .faddr 0 1 (.t 1), none, []⟩, ⟨(some 5), 7, .load false 1 (.t 4), none, []⟩, ⟨(some 6), 8, .faddr 0 1 (.t 3), none, []⟩, ⟨none, 1002003, .store 1 (.t 6) (.t 5), none, []⟩])
  (.seq (.ops [⟨(some 7), 9, .faddr 1 2 (.t 1), none, []⟩, ⟨(some 8), 10, .load true 2 (.t 7), none, []⟩, ⟨(some 9), 11, .call 60 [((.t 8), 0)], none, []⟩, ⟨(some 10), 12, .faddr 1 2 (.t 3), none, []⟩, ⟨none, 1003004, .store 2 (.t 10) (.t 9), none, []⟩])
  (.seq (.ops [⟨(some 11), 13, .faddr 3 1 (.t 1), none, []⟩, ⟨(some 12), 14, .load false 1 (.t 11), none, []⟩, ⟨(some 13), 15, .faddr 3 1 (.t 3), none, []⟩, ⟨none, 1004003, .store 1 (.t 13) (.t 12), none, []⟩])
  (.seq (.ops [⟨(some 14), 16, .faddr 4 4 (.t 1), none, []⟩, ⟨(some 15), 17, .load true 4 (.t 14), none, []⟩, ⟨(some 16), 18, .call 89 [((.t 15), 0)], none, []⟩, ⟨(some 17), 19, .faddr 4 4 (.t 3), none, []⟩, ⟨none, 1005004, .store 4 (.t 17) (.t 16), none, []⟩])
  (.seq (.ops [⟨(some 18), 20, .faddr 8 1 (.t 1), none, []⟩, ⟨(some 19), 21, .load false 1 (.t 18), none, []⟩, ⟨(some 20), 22, .call 90 [((.t 19), 0)], none, []⟩, ⟨(some 21), 23, .faddr 8 1 (.t 3), none, []⟩, ⟨none, 1006004, .store 1 (.t 21) (.t 20), none, []⟩])
  (.seq (.ops [⟨(some 22), 24, .load true 9 (.t 3), none, []⟩, ⟨none, 1007001, .store 9 (.t 2) (.t 22), none, []⟩])
  .ret))))))))
theorem k45 : compCode Try.prog Try.f45.ntmps Try.f45.body.get! = some c45 := by kernel_rfl
theorem r45 : resTmps Try.prog Try.f45.results.toList = some [.cell 2 true 9] := by kernel_rfl
/- laws.toCmdS -/
def c29 : TCode := (.seq (.ops [⟨(some 2), 4, .mv (.c (.sl true 9 [])), none, []⟩])
  (.seq (.ops [⟨(some 5), 7, .mv (.t 0), none, []⟩, ⟨(some 6), 8, .len false (.t 5), none, []⟩, ⟨(some 7), 9, .mkslice 9 88 [(.i .i64 0), (.i .i64 0), (.i .i64 0), (.i .i64 0), (.i .i64 0), (.i .i64 0), (.f 0), (.f 0), (.sl true 5 [])] (.t 6) (.t 6), none, []⟩, ⟨(some 3), 5, .mv (.t 7), none, []⟩])
  (.seq (.seq (.ops [⟨(some 4), 6, .mv (.c (.i .i64 0)), none, []⟩])
  (.block 0 (.loop (.seq (.seq (.ops [⟨(some 8), 10, .mv (.t 4), none, []⟩, ⟨(some 9), 11, .mv (.t 0), none, []⟩, ⟨(some 10), 12, .len false (.t 9), none, []⟩, ⟨(some 11), 13, .bin .lss (.t 8) (.t 10), none, []⟩])
  (.cond (.t 11)
  .skip
  (.exit 0)))
  (.seq (.block 1 (.ops [⟨(some 14), 16, .mv (.t 3), none, []⟩, ⟨(some 15), 17, .mv (.t 4), none, []⟩, ⟨(some 16), 18, .mv (.t 0), none, []⟩, ⟨(some 17), 19, .mv (.t 4), none, []⟩, ⟨(some 18), 20, .iaddr 9 (.t 16) (.t 17), none, []⟩, ⟨(some 19), 21, .load true 9 (.t 18), none, []⟩, ⟨(some 20), 22, .call 45 [((.t 19), 0)], none, []⟩, ⟨(some 21), 23, .iaddr 9 (.t 14) (.t 15), none, []⟩, ⟨none, 1005008, .store 9 (.t 21) (.t 20), none, []⟩]))
  (.ops [⟨(some 12), 14, .mv (.t 4), none, []⟩, ⟨(some 13), 15, .bin .add (.t 12) (.c (.i .i64 1)), none, []⟩, ⟨(some 4), 6, .mv (.t 13), none, []⟩]))))))
  (.seq (.ops [⟨(some 22), 24, .mv (.t 3), none, []⟩, ⟨(some 2), 4, .mv (.t 22), none, []⟩])
  .ret))))
theorem k29 : compCode Try.prog Try.f29.ntmps Try.f29.body.get! = some c29 := by kernel_rfl
theorem r29 : resTmps Try.prog Try.f29.results.toList = some [.tmp 2] := by kernel_rfl
/- laws.eqCell -/
def c157 : TCode := (.seq (.ops [⟨(some 2), 4, .box 5 (.t 0), none, []⟩, ⟨(some 3), 5, .box 5 (.t 1), none, []⟩, ⟨(some 4), 6, .mv (.c (.b false)), none, []⟩])
  (.seq (.seq (.ops [⟨(some 5), 7, .faddr 0 1 (.t 2), none, []⟩, ⟨(some 6), 8, .load false 1 (.t 5), none, []⟩, ⟨(some 7), 9, .faddr 0 1 (.t 3), none, []⟩, ⟨(some 8), 10, .load false 1 (.t 7), none, []⟩, ⟨(some 9), 11, .bin .neq (.t 6) (.t 8), none, []⟩])
  (.cond (.t 9)
  (.seq (.ops [⟨(some 4), 6, .mv (.c (.b false)), none, []⟩])
  .ret)
  .skip))
  (.seq (.seq (.ops [⟨(some 10), 12, .faddr 1 4 (.t 2), none, []⟩, ⟨(some 11), 13, .load true 4 (.t 10), none, []⟩, ⟨(some 12), 14, .faddr 1 4 (.t 3), none, []⟩, ⟨(some 13), 15, .load true 4 (.t 12), none, []⟩, ⟨(some 14), 16, .call 95 [((.t 11), 0), ((.t 13), 0)], none, []⟩, ⟨(some 15), 17, .un .not (.t 14), none, []⟩])
  (.cond (.t 15)
  (.seq (.ops [⟨(some 4), 6, .mv (.c (.b false)), none, []⟩])
  .ret)
  .skip))
  (.seq (.ops [⟨(some 4), 6, .mv (.c (.b true)), none, []⟩])
  .ret))))
theorem k157 : compCode Try.prog Try.f157.ntmps Try.f157.body.get! = some c157 := by kernel_rfl
theorem r157 : resTmps Try.prog Try.f157.results.toList = some [.tmp 4] := by kernel_rfl
/- laws.eqCellS -/
def c96 : TCode := (.seq (.ops [⟨(some 4), 6, .mv (.c (.b false)), none, []⟩])
  (.seq (.seq (.ops [⟨(some 6), 8, .mv (.t 0), none, []⟩, ⟨(some 7), 9, .len false (.t 6), none, []⟩, ⟨(some 8), 10, .mv (.t 1), none, []⟩, ⟨(some 9), 11, .len false (.t 8), none, []⟩, ⟨(some 10), 12, .bin .neq (.t 7) (.t 9), none, []⟩])
  (.cond (.t 10)
  (.seq (.ops [⟨(some 4), 6, .mv (.c (.b false)), none, []⟩])
  .ret)
  .skip))
  (.seq (.seq (.ops [⟨(some 5), 7, .mv (.c (.i .i64 0)), none, []⟩])
  (.block 0 (.loop (.seq (.seq (.ops [⟨(some 11), 13, .mv (.t 5), none, []⟩, ⟨(some 12), 14, .mv (.t 0), none, []⟩, ⟨(some 13), 15, .len false (.t 12), none, []⟩, ⟨(some 14), 16, .bin .lss (.t 11) (.t 13), none, []⟩])
  (.cond (.t 14)
  .skip
  (.exit 0)))
  (.seq (.block 1 (.seq (.draw [⟨(some 17), 19, .mv (.t 0), none, []⟩, ⟨(some 18), 20, .mv (.t 5), none, []⟩, ⟨(some 19), 21, .iaddr 5 (.t 17) (.t 18), none, []⟩, ⟨(some 20), 22, .load true 5 (.t 19), none, []⟩, ⟨(some 21), 23, .mv (.t 1), none, []⟩, ⟨(some 22), 24, .mv (.t 5), none, []⟩, ⟨(some 23), 25, .iaddr 5 (.t 21) (.t 22), none, []⟩, ⟨(some 24), 26, .load true 5 (.t 23), none, []⟩, ⟨(some 25), 27, .call 157 [((.t 20), 0), ((.t 24), 0)], none, []⟩, ⟨(some 26), 28, .un .not (.t 25), none, []⟩])
  (.cond (.t 26)
  (.seq (.ops [⟨(some 4), 6, .mv (.c (.b false)), none, []⟩])
  .ret)
  .skip)))
  (.ops [⟨(some 15), 17, .mv (.t 5), none, []⟩, ⟨(some 16), 18, .bin .add (.t 15) (.c (.i .i64 1)), none, []⟩, ⟨(some 5), 7, .mv (.t 16), none, []⟩]))))))
  (.seq (.ops [⟨(some 4), 6, .mv (.c (.b true)), none, []⟩])
  .ret))))
theorem k96 : compCode Try.prog Try.f96.ntmps Try.f96.body.get! = some c96 := by kernel_rfl
theorem r96 : resTmps Try.prog Try.f96.results.toList = some [.tmp 4] := by kernel_rfl
/- laws.eqCmd -/
def c48 : TCode := (.seq (.ops [⟨(some 2), 4, .box 9 (.t 0), none, []⟩, ⟨(some 3), 5, .box 9 (.t 1), none, []⟩, ⟨(some 4), 6, .mv (.c (.b false)), none, []⟩])
  (.seq (.seq (.ops [⟨(some 5), 7, .faddr 0 1 (.t 2), none, []⟩, ⟨(some 6), 8, .load false 1 (.t 5), none, []⟩, ⟨(some 7), 9, .faddr 0 1 (.t 3), none, []⟩, ⟨(some 8), 10, .load false 1 (.t 7), none, []⟩, ⟨(some 9), 11, .bin .neq (.t 6) (.t 8), none, []⟩])
  (.cond (.t 9)
  (.seq (.ops [⟨(some 4), 6, .mv (.c (.b false)), none, []⟩])
  .ret)
  .skip))
  (.seq (.seq (.ops [⟨(some 10), 12, .faddr 1 2 (.t 2), none, []⟩, ⟨(some 11), 13, .load true 2 (.t 10), none, []⟩, ⟨(some 12), 14, .faddr 1 2 (.t 3), none, []⟩, ⟨(some 13), 15, .load true 2 (.t 12), none, []⟩, ⟨(some 14), 16, .call 94 [((.t 11), 0), ((.t 13), 0)], none, []⟩, ⟨(some 15), 17, .un .not (.t 14), none, []⟩])
  (.cond (.t 15)
  (.seq (.ops [⟨(some 4), 6, .mv (.c (.b false)), none, []⟩])
  .ret)
  .skip))
  (.seq (.seq (.ops [⟨(some 16), 18, .faddr 3 1 (.t 2), none, []⟩, ⟨(some 17), 19, .load false 1 (.t 16), none, []⟩, ⟨(some 18), 20, .faddr 3 1 (.t 3), none, []⟩, ⟨(some 19), 21, .load false 1 (.t 18), none, []⟩, ⟨(some 20), 22, .bin .neq (.t 17) (.t 19), none, []⟩])
  (.cond (.t 20)
  (.seq (.ops [⟨(some 4), 6, .mv (.c (.b false)), none, []⟩])
  .ret)
  .skip))
  (.seq (.seq (.ops [⟨(some 21), 23, .faddr 4 4 (.t 2), none, []⟩, ⟨(some 22), 24, .load true 4 (.t 21), none, []⟩, ⟨(some 23), 25, .faddr 4 4 (.t 3), none, []⟩, ⟨(some 24), 26, .load true 4 (.t 23), none, []⟩, ⟨(some 25), 27, .call 95 [((.t 22), 0), ((.t 24), 0)], none, []⟩, ⟨(some 26), 28, .un .not (.t 25), none, []⟩])
  (.cond (.t 26)
  (.seq (.ops [⟨(some 4), 6, .mv (.c (.b false)), none, []⟩])
  .ret)
  .skip))
  (.seq (.seq (.ops [⟨(some 27), 29, .faddr 8 1 (.t 2), none, []⟩, ⟨(some 28), 30, .load false 1 (.t 27), none, []⟩, ⟨(some 29), 31, .faddr 8 1 (.t 3), none, []⟩, ⟨(some 30), 32, .load false 1 (.t 29), none, []⟩, ⟨(some 31), 33, .call 96 [((.t 28), 0), ((.t 30), 0)], none, []⟩, ⟨(some 32), 34, .un .not (.t 31), none, []⟩])
  (.cond (.t 32)
  (.seq (.ops [⟨(some 4), 6, .mv (.c (.b false)), none, []⟩])
  .ret)
  .skip))
  (.seq (.ops [⟨(some 4), 6, .mv (.c (.b true)), none, []⟩])
  .ret)))))))
theorem k48 : compCode Try.prog Try.f48.ntmps Try.f48.body.get! = some c48 := by kernel_rfl
theorem r48 : resTmps Try.prog Try.f48.results.toList = some [.tmp 4] := by kernel_rfl
/- laws.eqCmdS -/
def c32 : TCode := (.seq (.ops [⟨(some 4), 6, .mv (.c (.b false)), none, []⟩])
  (.seq (.seq (.ops [⟨(some 6), 8, .mv (.t 0), none, []⟩, ⟨(some 7), 9, .len false (.t 6), none, []⟩, ⟨(some 8), 10, .mv (.t 1), none, []⟩, ⟨(some 9), 11, .len false (.t 8), none, []⟩, ⟨(some 10), 12, .bin .neq (.t 7) (.t 9), none, []⟩])
  (.cond (.t 10)
  (.seq (.ops [⟨(some 4), 6, .mv (.c (.b false)), none, []⟩])
  .ret)
  .skip))
  (.seq (.seq (.ops [⟨(some 5), 7, .mv (.c (.i .i64 0)), none, []⟩])
  (.block 0 (.loop (.seq (.seq (.ops [⟨(some 11), 13, .mv (.t 5), none, []⟩, ⟨(some 12), 14, .mv (.t 0), none, []⟩, ⟨(some 13), 15, .len false (.t 12), none, []⟩, ⟨(some 14), 16, .bin .lss (.t 11) (.t 13), none, []⟩])
  (.cond (.t 14)
  .skip
  (.exit 0)))
  (.seq (.block 1 (.seq (.draw [⟨(some 17), 19, .mv (.t 0), none, []⟩, ⟨(some 18), 20, .mv (.t 5), none, []⟩, ⟨(some 19), 21, .iaddr 9 (.t 17) (.t 18), none, []⟩, ⟨(some 20), 22, .load true 9 (.t 19), none, []⟩, ⟨(some 21), 23, .mv (.t 1), none, []⟩, ⟨(some 22), 24, .mv (.t 5), none, []⟩, ⟨(some 23), 25, .iaddr 9 (.t 21) (.t 22), none, []⟩, ⟨(some 24), 26, .load true 9 (.t 23), none, []⟩, ⟨(some 25), 27, .call 48 [((.t 20), 0), ((.t 24), 0)], none, []⟩, ⟨(some 26), 28, .un .not (.t 25), none, []⟩])
  (.cond (.t 26)
  (.seq (.ops [⟨(some 4), 6, .mv (.c (.b false)), none, []⟩])
  .ret)
  .skip)))
  (.ops [⟨(some 15), 17, .mv (.t 5), none, []⟩, ⟨(some 16), 18, .bin .add (.t 15) (.c (.i .i64 1)), none, []⟩, ⟨(some 5), 7, .mv (.t 16), none, []⟩]))))))
  (.seq (.ops [⟨(some 4), 6, .mv (.c (.b true)), none, []⟩])
  .ret))))
theorem k32 : compCode Try.prog Try.f32.ntmps Try.f32.body.get! = some c32 := by kernel_rfl
theorem r32 : resTmps Try.prog Try.f32.results.toList = some [.tmp 4] := by kernel_rfl
/- spec.Spawns -/
def c39 : TCode := (.seq (.ops [⟨(some 2), 4, .mv (.c (.i .i64 0)), none, []⟩])
  (.seq (.ops [⟨(some 3), 5, .mv (.c (.i .i64 0)), none, []⟩])
  (.seq (.seq (.ops [⟨(some 4), 6, .mv (.c (.i .i64 0)), none, []⟩])
  (.block 0 (.loop (.seq (.seq (.ops [⟨(some 5), 7, .mv (.t 4), none, []⟩, ⟨(some 6), 8, .mv (.t 0), none, []⟩, ⟨(some 7), 9, .len false (.t 6), none, []⟩, ⟨(some 8), 10, .bin .lss (.t 5) (.t 7), none, []⟩])
  (.cond (.t 8)
  .skip
  (.exit 0)))
  (.seq (.block 1 (.seq (.ops [⟨(some 11), 13, .mv (.t 0), none, []⟩, ⟨(some 12), 14, .mv (.t 4), none, []⟩, ⟨(some 13), 15, .iaddr 9 (.t 11) (.t 12), none, []⟩, ⟨(some 14), 16, .faddr 0 1 (.t 13), none, []⟩, ⟨(some 15), 17, .load false 1 (.t 14), none, []⟩, ⟨(some 16), 18, .bin .eql (.t 15) (.c (.i .i64 1)), none, []⟩])
  (.cond (.t 16)
  (.ops [⟨(some 17), 19, .mv (.t 3), none, []⟩, ⟨(some 18), 20, .bin .add (.t 17) (.c (.i .i64 1)), none, []⟩, ⟨(some 3), 5, .mv (.t 18), none, []⟩])
  .skip)))
  (.ops [⟨(some 9), 11, .mv (.t 4), none, []⟩, ⟨(some 10), 12, .bin .add (.t 9) (.c (.i .i64 1)), none, []⟩, ⟨(some 4), 6, .mv (.t 10), none, []⟩]))))))
  (.seq (.ops [⟨(some 19), 21, .mv (.t 3), none, []⟩, ⟨(some 2), 4, .mv (.t 19), none, []⟩])
  .ret))))
theorem k39 : compCode Try.prog Try.f39.ntmps Try.f39.body.get! = some c39 := by kernel_rfl
theorem r39 : resTmps Try.prog Try.f39.results.toList = some [.tmp 2] := by kernel_rfl
/- impl.Spawns -/
def c38 : TCode := (.seq (.ops [⟨(some 2), 4, .mv (.c (.i .i64 0)), none, []⟩])
  (.seq (.ops [⟨(some 3), 5, .mv (.c (.i .i64 0)), none, []⟩])
  (.seq (.seq (.ops [⟨(some 6), 8, .mv (.t 0), none, []⟩, ⟨(some 7), 9, .len false (.t 6), none, []⟩, ⟨(some 8), 10, .mv (.c (.i .i64 0)), none, []⟩])
  (.block 0 (.loop (.seq (.ops [⟨(some 9), 11, .bin .lss (.t 8) (.t 7), none, []⟩])
  (.seq (.cond (.t 9)
  .skip
  (.exit 0))
  (.seq (.block 1 (.seq (.ops [⟨(some 10), 12, .iaddr 9 (.t 6) (.t 8), none, []⟩, ⟨(some 11), 13, .load true 9 (.t 10), none, []⟩, ⟨(some 5), 7, .box 9 (.c (.ag [(.i .i64 0), (.i .i64 0), (.i .i64 0), (.i .i64 0), (.i .i64 0), (.i .i64 0), (.f 0), (.f 0), (.sl true 5 [])])), none, []⟩, ⟨none, 1004003, .store 9 (.t 5) (.t 11), none, []⟩])
  (.seq (.ops [⟨(some 12), 14, .faddr 0 1 (.t 5), none, []⟩, ⟨(some 13), 15, .load false 1 (.t 12), none, []⟩, ⟨(some 14), 16, .bin .eql (.t 13) (.c (.i .i64 1)), none, []⟩])
  (.cond (.t 14)
  (.ops [⟨(some 15), 17, .mv (.t 3), none, []⟩, ⟨(some 16), 18, .bin .add (.t 15) (.c (.i .i64 1)), none, []⟩, ⟨(some 3), 5, .mv (.t 16), none, []⟩])
  .skip))))
  (.ops [⟨(some 17), 19, .bin .add (.t 8) (.c (.i .i64 1)), none, []⟩, ⟨(some 8), 10, .mv (.t 17), none, []⟩])))))))
  (.seq (.ops [⟨(some 18), 20, .mv (.t 3), none, []⟩, ⟨(some 2), 4, .mv (.t 18), none, []⟩])
  .ret))))
theorem k38 : compCode Try.prog Try.f38.ntmps Try.f38.body.get! = some c38 := by kernel_rfl
theorem r38 : resTmps Try.prog Try.f38.results.toList = some [.tmp 2] := by kernel_rfl
/- laws.FnExactSpawns -/
def c7 : TCode := (.seq (.ops [⟨(some 2), 4, .mv (.c (.b false)), none, []⟩])
  (.seq (.ops [⟨(some 3), 5, .mv (.c (.i .i64 1048576)), none, []⟩])
  (.seq (.ops [⟨(some 7), 9, .mv (.t 0), none, []⟩, ⟨(some 8), 10, .mv (.t 3), none, []⟩, ⟨(some 9), 11, .call 27 [((.t 7), 0), ((.t 8), 0)], none, []⟩, ⟨(some 3), 5, .mv (.t 9), none, []⟩])
  (.seq (.seq (.ops [⟨(some 10), 12, .mv (.t 3), none, []⟩, ⟨(some 11), 13, .bin .lss (.t 10) (.c (.i .i64 0)), none, []⟩])
  (.cond (.t 11)
  (.seq (.ops [⟨(some 2), 4, .mv (.c (.b true)), none, []⟩])
  .ret)
  .skip))
  (.seq (.ops [⟨(some 12), 14, .mv (.t 0), none, []⟩, ⟨(some 13), 15, .call 29 [((.t 12), 0)], none, []⟩, ⟨(some 14), 16, .call 39 [((.t 13), 0)], none, []⟩, ⟨(some 4), 6, .mv (.t 14), none, []⟩])
  (.seq (.ops [⟨(some 15), 17, .mv (.t 0), none, []⟩, ⟨(some 16), 18, .call 29 [((.t 15), 0)], none, []⟩, ⟨(some 5), 7, .mv (.t 16), none, []⟩])
  (.seq (.ops [⟨(some 17), 19, .mv (.t 5), none, []⟩, ⟨(some 18), 20, .call 38 [((.t 17), 0)], none, []⟩, ⟨(some 6), 8, .mv (.t 18), none, []⟩])
  (.seq (.seq (.ops [⟨(some 19), 21, .mv (.t 6), none, []⟩, ⟨(some 20), 22, .mv (.t 4), none, []⟩, ⟨(some 21), 23, .bin .neq (.t 19) (.t 20), none, []⟩])
  (.cond (.t 21)
  (.seq (.ops [⟨(some 2), 4, .mv (.c (.b false)), none, []⟩])
  .ret)
  .skip))
  (.seq (.seq (.ops [⟨(some 22), 24, .mv (.t 5), none, []⟩, ⟨(some 23), 25, .mv (.t 0), none, []⟩, ⟨(some 24), 26, .call 29 [((.t 23), 0)], none, []⟩, ⟨(some 25), 27, .call 32 [((.t 22), 0), ((.t 24), 0)], none, []⟩, ⟨(some 26), 28, .un .not (.t 25), none, []⟩])
  (.cond (.t 26)
  (.seq (.ops [⟨(some 2), 4, .mv (.c (.b false)), none, []⟩])
  .ret)
  .skip))
  (.seq (.ops [⟨(some 2), 4, .mv (.c (.b true)), none, []⟩])
  .ret))))))))))
theorem k7 : compCode Try.prog Try.f7.ntmps Try.f7.body.get! = some c7 := by kernel_rfl
theorem r7 : resTmps Try.prog Try.f7.results.toList = some [.tmp 2] := by kernel_rfl

abbrev CellP := Int × ValP
@[simp] def clT (x : Int × ValP) : List TV := .i .i64 x.1 :: vT x.2
@[simp] theorem fzL_clT (x : Int × ValP) : fzL (clT x) = clT x := rfl
@[simp] theorem fzLL_clT (l : List (Int × ValP)) : fzLL (l.map clT) = l.map clT := fzLL_map fzL_clT l
@[simp] theorem noROLL_clT (l : List (Int × ValP)) : noROLL (l.map clT) = true := noROLL_map (fun _ => rfl) l
@[simp] theorem noref_clT (l : List (Int × ValP)) : (l.map clT).all (·.all noref) = true := noref_map (fun _ => rfl) l
@[simp] theorem srcT_clT (H : Hp) (z : Nat) (l : List (Int × ValP)) : srcT H (.sl false z (l.map clT)) = some (z, l.map clT, H, []) := by simp only [srcT, noref_clT, if_true]
abbrev CmdP := Int × (Int × Int) × Int × ValP × List CellP
@[simp] def cmT (x : CmdP) : List TV := .i .i64 x.1 :: (eT x.2.1 ++ .i .i64 x.2.2.1 :: (vT x.2.2.2.1 ++ [.sl false 5 (x.2.2.2.2.map clT)]))
@[simp] def cmO (x : CmdP) : List TV := [.i .i64 x.1, .i .i64 x.2.1.1, .i .i64 x.2.1.2, .i .i64 x.2.2.1, .i .i64 x.2.2.2.1.1, .i .i64 x.2.2.2.1.2.1, .f x.2.2.2.1.2.2.1, .f x.2.2.2.1.2.2.2, .sl true 5 (x.2.2.2.2.map clT)]
@[simp] theorem fzL_cmT (x : CmdP) : fzL (cmT x) = cmT x := by simp
@[simp] theorem fzL_cmO (x : CmdP) : fzL (cmO x) = cmT x := by simp
@[simp] theorem fzLL_cmT (l : List CmdP) : fzLL (l.map cmT) = l.map cmT := fzLL_map fzL_cmT l
@[simp] theorem fzLL_cmO (l : List CmdP) : fzLL (l.map cmO) = l.map cmT := fzLL_mapR fzL_cmO l
@[simp] theorem noROLL_cmO (l : List CmdP) : noROLL (l.map cmO) = true := noROLL_map (fun _ => by simp [noROL, noRO]) l
@[simp] theorem noref_cmT (l : List CmdP) : (l.map cmT).all (·.all noref) = true := noref_map (fun _ => by simp) l
abbrev cellR (x : CellP) : TV := .ag (clT x)
abbrev cmdR (x : CmdP) : TV := .ag (cmT x)
abbrev cmdO (x : CmdP) : TV := .ag (cmO x)

theorem w83 (l : List CellP) (n : Int) (hl : l.length < 2^63) (hn : n < 2^62) (hn0 : 0 ≤ n) : Contract Try.prog false 83 [.ro, .ro] [.sl false 5 (l.map clT), .i .i64 n] [.i .i64 (szF n l.length)] [] := by
  refine mk_contract [] Try.func83 (c := Try.f83.body.get!) (by kernel_rfl) k83 r83 (of_decide_eq_true rfl) fun _ => ?_
  have hw : IntKind.i64.wrap (n - l.length) = n - l.length := wrap_id (by omega) (by omega)
  unfold c83; unfold szF; simp [hw]
  omega
def szCmF (x : CmdP) (n : Int) : Int := szF n x.2.2.2.2.length
theorem szCm_C : SzC szCmF (fun x => x.2.2.2.2.length) := szF_C _
theorem w42 (x : CmdP) (n : Int) (hl : x.2.2.2.2.length < 2^63) (hn : n < 2^62) (hn0 : 0 ≤ n) : Contract Try.prog false 42 [.ro, .ro] [cmdR x, .i .i64 n] [.i .i64 (szCmF x n)] [] := by
  refine mk_contract [] Try.func42 (c := Try.f42.body.get!) (by kernel_rfl) k42 r42 (of_decide_eq_true rfl) fun _ => ?_
  unfold c42; simp
  refine callW_ms [.ro, .ro] ?_
  simp
  refine callX_of (w83 x.2.2.2.2 n hl hn hn0) (by simp) ?_
  simp [szCmF]
  exact fun h => (szF_neg _ _ h).symm
theorem w27 (l : List CmdP) (n : Int) (hl : l.length < 2^63) (hd : ∀ x ∈ l, x.2.2.2.2.length < 2^63) (hn : n < 2^62) (hn0 : 0 ≤ n) : Contract Try.prog false 27 [.ro, .ro] [.sl false 9 (l.map cmT), .i .i64 n] [.i .i64 (szS szCmF l n)] [] := by
  refine mk_contract [] Try.func27 (c := Try.f27.body.get!) (by kernel_rfl) k27 r27 (of_decide_eq_true rfl) fun _ => ?_
  have hw : IntKind.i64.wrap (n - l.length) = n - l.length := wrap_id (by omega) (by omega)
  unfold c27; simp [hw]
  refine ⟨fun h => ?_, fun h => ?_⟩
  · simp [szS, szF, h]
  have e : szF n l.length = n - l.length := by unfold szF; rw [if_neg (by omega)]
  have e2 : szS szCmF l n = szA szCmF l (n - l.length) := by unfold szS; rw [e, if_neg (by omega)]
  rw [e2]
  refine twp_for l.length (fun j s => s.t 0 = .sl false 9 (l.map cmT) ∧ s.t 1 = .i .i64 (szA szCmF (l.take j) (n - l.length)) ∧ s.t 5 = .i .i64 j ∧ 0 ≤ szA szCmF (l.take j) (n - l.length) ∧ s.H = lk [(1, [])]) [] (by simp) ?_ ?_
  · simp; omega
  · rintro j s hj ⟨q0, q1, q5, h0, qH⟩
    rw [nf_of qH]
    simp [q0, q1, q5]
    refine ⟨fun hlt => ?_, fun hge => ?_⟩
    · have hw : IntKind.i64.wrap (j + 1) = j + 1 := wrap_id (by omega) (by omega)
      obtain ⟨x, hx⟩ := get_some hlt
      have hle := (szA_ok szCm_C.le (l.take j) _ h0 (by omega)).1
      have hs : szA szCmF (l.take (j + 1)) (n - l.length) = szCmF x (szA szCmF (l.take j) (n - l.length)) := by
        rw [take_snoc hx, szA_snoc, if_neg (by omega)]
      have hng := szCm_C.neg x (szA szCmF (l.take j) (n - l.length))
      have hng2 := szA_take szCmF l (n - l.length) (j + 1)
      rw [hs] at hng2
      generalize szA szCmF (l.take j) (n - l.length) = m at *
      simp [hx, hw, q0, q1, q5]
      refine callW_ms [.ro, .ro] ?_
      simp
      refine callX_of (w42 x m (hd x (List.mem_of_getElem? hx)) (by omega) h0) (by simp) ?_
      simp [hw, q0, q1, q5]
      generalize szCmF x m = m' at *
      refine ⟨fun h1 => (hng2 (hng h1)).symm, fun h1 => ⟨hlt, by rw [hs], by rw [hs]; omega⟩⟩
    · obtain rfl : j = l.length := by omega
      simp [q0, q1, q5]
theorem w148 (x : CellP) : Contract Try.prog false 148 [.ro] [cellR x] [cellR x] [] := by
  refine mk_contract [] Try.func148 (c := Try.f148.body.get!) (by kernel_rfl) k148 r148 (of_decide_eq_true rfl) fun _ => ?_
  unfold c148; simp
  refine callW_ms [.ro] ?_
  simp [valV]
  refine callX_of (w89 x.2) (by simp) ?_
  simp [valV]
theorem w90 (l : List CellP) (hl : l.length ≤ 2^40) : Contract Try.prog false 90 [.ro] [.sl false 5 (l.map clT)] [.sl true 5 (l.map clT)] [] := by
  refine mk_contract [] Try.func90 (c := Try.f90.body.get!) (by kernel_rfl) k90 r90 (of_decide_eq_true rfl) fun _ => ?_
  unfold c90; simp
  refine ⟨by omega, ?_⟩
  refine twp_for l.length (fun j s => s.t 0 = .sl false 5 (l.map clT) ∧ s.t 3 = .rf [(9, 0)] 0 l.length ∧ s.t 4 = .i .i64 j ∧ s.H = lk [(1, []), (9, [.sl true 5 ((l.map clT).take j ++ List.replicate (l.length - j) [.i .i64 0, .i .i64 0, .i .i64 0, .f 0, .f 0])])]) [] (by simp) ?_ ?_
  · simp
  · rintro j s hj ⟨q0, q3, q4, qH⟩
    rw [nf_of qH]
    simp [q0, q3, q4]
    refine ⟨fun hlt => ?_, fun hge => ?_⟩
    · have hw : IntKind.i64.wrap (j + 1) = j + 1 := wrap_id (by omega) (by omega)
      obtain ⟨x, hx⟩ := get_some hlt
      have hmin : min j l.length = j := by omega
      simp [hx, hw, q0, q3, q4]
      refine callW_ms [.ro] ?_
      simp
      refine callX_of (w148 x) (by simp) ?_
      simp [hw, q0, q3, q4, rep_at hlt, mapsnoc hx, hmin]
      omega
    · obtain rfl : j = l.length := by omega
      simp [q0, q3, q4]
theorem w45 (x : CmdP) (h : x.2.2.2.2.length ≤ 2^40) : Contract Try.prog false 45 [.ro] [cmdR x] [cmdO x] [] := by
  refine mk_contract [] Try.func45 (c := Try.f45.body.get!) (by kernel_rfl) k45 r45 (of_decide_eq_true rfl) fun _ => ?_
  unfold c45; simp
  refine callW_ms [.ro] ?_
  simp [entT]
  refine callX_of (w60 x.2.1.1 x.2.1.2) (by simp) ?_
  simp [entT]
  refine callW_ms [.ro] ?_
  simp [valV]
  refine callX_of (w89 x.2.2.2.1) (by simp) ?_
  simp [valV]
  refine callW_ms [.ro] ?_
  simp
  refine callX_of (w90 x.2.2.2.2 h) (by simp) ?_
  simp
theorem w29 (l : List CmdP) (hl : l.length ≤ 2^36) (hd : ∀ x ∈ l, x.2.2.2.2.length ≤ 2^40) : Contract Try.prog false 29 [.ro] [.sl false 9 (l.map cmT)] [.sl true 9 (l.map cmO)] [] := by
  refine mk_contract [] Try.func29 (c := Try.f29.body.get!) (by kernel_rfl) k29 r29 (of_decide_eq_true rfl) fun _ => ?_
  unfold c29; simp
  refine ⟨by omega, ?_⟩
  refine twp_for l.length (fun j s => s.t 0 = .sl false 9 (l.map cmT) ∧ s.t 3 = .rf [(9, 0)] 0 l.length ∧ s.t 4 = .i .i64 j ∧ s.H = lk [(1, []), (9, [.sl true 9 ((l.map cmO).take j ++ List.replicate (l.length - j) [.i .i64 0, .i .i64 0, .i .i64 0, .i .i64 0, .i .i64 0, .i .i64 0, .f 0, .f 0, .sl true 5 []])])]) [22] (by simp) ?_ ?_
  · simp
  · rintro j s hj ⟨q0, q3, q4, qH⟩
    rw [nf_of qH]
    simp [q0, q3, q4]
    refine ⟨fun hlt => ?_, fun hge => ?_⟩
    · have hw : IntKind.i64.wrap (j + 1) = j + 1 := wrap_id (by omega) (by omega)
      obtain ⟨x, hx⟩ := get_some hlt
      have hmin : min j l.length = j := by omega
      simp [hx, hw, q0, q3, q4]
      refine callW_ms [.ro] ?_
      simp
      refine callX_of (w45 x (hd x (List.mem_of_getElem? hx))) (by simp) ?_
      simp [hw, q0, q3, q4, rep_at hlt, mapsnoc hx, hmin]
      omega
    · obtain rfl : j = l.length := by omega
      simp [q0, q3, q4]
theorem w157 (x : CellP) : Contract Try.prog false 157 [.ro, .ro] [cellR x, cellR x] [.b true] [] := by
  refine mk_contract [] Try.func157 (c := Try.f157.body.get!) (by kernel_rfl) k157 r157 (of_decide_eq_true rfl) fun _ => ?_
  unfold c157; simp
  refine callW_ms [.ro, .ro] ?_
  simp
  refine callX_of (W95r x.2) (by simp [valV]) ?_
  simp
theorem w96 (a : List CellP) (ha : a.length ≤ 2^40) : Contract Try.prog false 96 [.ro, .ro] [.sl false 5 (a.map clT), .sl false 5 (a.map clT)] [.b true] [] := by
  refine mk_contract [] Try.func96 (c := Try.f96.body.get!) (by kernel_rfl) k96 r96 (of_decide_eq_true rfl) fun _ => ?_
  unfold c96; simp
  refine twp_for a.length (fun j s => s.t 0 = .sl false 5 (a.map clT) ∧ s.t 1 = .sl false 5 (a.map clT) ∧ s.t 5 = .i .i64 j ∧ s.H = lk [(1, [])]) [] (by simp) ?_ ?_
  · simp
  · rintro j s hj ⟨q0, q1, q5, qH⟩
    rw [nf_of qH]
    simp [q0, q1, q5]
    intro hlt
    have hw : IntKind.i64.wrap (j + 1) = j + 1 := wrap_id (by omega) (by omega)
    obtain ⟨x, hx⟩ := get_some hlt
    simp [hx, hw, q0, q1, q5]
    refine callW_ms [.ro, .ro] ?_
    simp
    refine callX_of (w157 x) (by simp) ?_
    simp [hw, q0, q1, q5]
    exact hlt
theorem w48 (x : CmdP) (h : x.2.2.2.2.length ≤ 2^40) : Contract Try.prog false 48 [.ro, .ro] [cmdR x, cmdR x] [.b true] [] := by
  refine mk_contract [] Try.func48 (c := Try.f48.body.get!) (by kernel_rfl) k48 r48 (of_decide_eq_true rfl) fun _ => ?_
  unfold c48; simp
  refine callW_ms [.ro, .ro] ?_
  simp [entT]
  refine callX_of (w94 x.2.1.1 x.2.1.2 x.2.1.1 x.2.1.2) (by simp) ?_
  simp
  refine callW_ms [.ro, .ro] ?_
  simp
  refine callX_of (W95r x.2.2.2.1) (by simp [valV]) ?_
  simp
  refine callW_ms [.ro, .ro] ?_
  simp
  refine callX_of (w96 x.2.2.2.2 h) (by simp) ?_
  simp
theorem w32 (a : List CmdP) (ha : a.length ≤ 2^40) (hd : ∀ x ∈ a, x.2.2.2.2.length ≤ 2^40) : Contract Try.prog false 32 [.ro, .ro] [.sl false 9 (a.map cmT), .sl false 9 (a.map cmT)] [.b true] [] := by
  refine mk_contract [] Try.func32 (c := Try.f32.body.get!) (by kernel_rfl) k32 r32 (of_decide_eq_true rfl) fun _ => ?_
  unfold c32; simp
  refine twp_for a.length (fun j s => s.t 0 = .sl false 9 (a.map cmT) ∧ s.t 1 = .sl false 9 (a.map cmT) ∧ s.t 5 = .i .i64 j ∧ s.H = lk [(1, [])]) [] (by simp) ?_ ?_
  · simp
  · rintro j s hj ⟨q0, q1, q5, qH⟩
    rw [nf_of qH]
    simp [q0, q1, q5]
    intro hlt
    have hw : IntKind.i64.wrap (j + 1) = j + 1 := wrap_id (by omega) (by omega)
    obtain ⟨x, hx⟩ := get_some hlt
    simp [hx, hw, q0, q1, q5]
    refine callW_ms [.ro, .ro] ?_
    simp
    refine callX_of (w48 x (hd x (List.mem_of_getElem? hx))) (by simp) ?_
    simp [hw, q0, q1, q5]
    exact hlt
theorem szCms_ok {l : List CmdP} {n : Int} (h0 : 0 ≤ n) (hn : n ≤ 2^36) (h : ¬ szS szCmF l n < 0) : l.length ≤ 2^36 ∧ (∀ x ∈ l, x.2.2.2.2.length ≤ 2^36) ∧ (l.length + sumN (fun x : CmdP => x.2.2.2.2.length) l : Nat) ≤ n := by
  have e := (szS_C szCm_C).eq l n h0 (by omega)
  refine ⟨by omega, fun x hx => ?_, by omega⟩
  have h1 : x.2.2.2.2.length ≤ sumN (fun x : CmdP => x.2.2.2.2.length) l := sumN_mem (c := fun x : CmdP => x.2.2.2.2.length) hx
  omega

/-! ### Spawns -/
def spwN (l : List CmdP) : Nat := (l.filter fun x => decide (x.1 = 1)).length
theorem spwN_at {l : List CmdP} {x : CmdP} {j : Nat} (h : l[j]? = some x) : spwN (l.take (j + 1)) = spwN (l.take j) + (if x.1 = 1 then 1 else 0) := by
  rw [take_snoc h]; unfold spwN; rw [List.filter_append, List.length_append]
  split <;> rename_i hx <;> simp [hx]
theorem spwN_le (l : List CmdP) : spwN l ≤ l.length := List.length_filter_le _ _
theorem w39 (l : List CmdP) (hl : l.length ≤ 2^40) : Contract Try.prog false 39 [.ro] [.sl false 9 (l.map cmT)] [.i .i64 (spwN l)] [] := by
  refine mk_contract [] Try.func39 (c := Try.f39.body.get!) (by kernel_rfl) k39 r39 (of_decide_eq_true rfl) fun _ => ?_
  unfold c39; simp
  refine twp_for l.length (fun j s => s.t 0 = .sl false 9 (l.map cmT) ∧ s.t 3 = .i .i64 (spwN (l.take j)) ∧ s.t 4 = .i .i64 j ∧ s.H = lk [(1, [])]) [] (by simp) ?_ ?_
  · simp [spwN]
  · rintro j s hj ⟨q0, q3, q4, qH⟩
    rw [nf_of qH]
    simp [q0, q3, q4]
    refine ⟨fun hlt => ?_, fun hge => ?_⟩
    · have hw : IntKind.i64.wrap (j + 1) = j + 1 := wrap_id (by omega) (by omega)
      obtain ⟨x, hx⟩ := get_some hlt
      have hle := spwN_le (l.take j)
      rw [List.length_take] at hle
      have hw1 : IntKind.i64.wrap ((spwN (l.take j) : Int) + 1) = spwN (l.take j) + 1 := wrap_id (by omega) (by omega)
      by_cases h1 : x.1 = 1
      · have e := spwN_at hx
        rw [if_pos h1] at e
        simp [hx, hw, hw1, h1, q0, q3, q4, e]
        exact hlt
      · have e := spwN_at hx
        rw [if_neg h1] at e
        simp [hx, hw, hw1, h1, q0, q3, q4, e]
        exact hlt
    · obtain rfl : j = l.length := by omega
      simp [q0, q3, q4]
theorem w38 (l : List CmdP) (hl : l.length ≤ 2^40) : Contract Try.prog false 38 [.ro] [.sl false 9 (l.map cmT)] [.i .i64 (spwN l)] [] := by
  refine mk_contract [] Try.func38 (c := Try.f38.body.get!) (by kernel_rfl) k38 r38 (of_decide_eq_true rfl) fun _ => ?_
  unfold c38; simp
  refine twp_for l.length (fun j s => s.t 3 = .i .i64 (spwN (l.take j)) ∧ s.t 6 = .sl false 9 (l.map cmT) ∧ s.t 7 = .i .i64 l.length ∧ s.t 8 = .i .i64 j ∧ s.H = lk [(1, [])]) [7] (by simp) ?_ ?_
  · simp [spwN]
  · rintro j s hj ⟨q3, q6, q7, q8, qH⟩
    rw [nf_of qH]
    simp [q3, q6, q7, q8]
    refine ⟨fun hlt => ?_, fun hge => ?_⟩
    · have hw : IntKind.i64.wrap (j + 1) = j + 1 := wrap_id (by omega) (by omega)
      obtain ⟨x, hx⟩ := get_some hlt
      have hle := spwN_le (l.take j)
      rw [List.length_take] at hle
      have hw1 : IntKind.i64.wrap ((spwN (l.take j) : Int) + 1) = spwN (l.take j) + 1 := wrap_id (by omega) (by omega)
      by_cases h1 : x.1 = 1
      · have e := spwN_at hx
        rw [if_pos h1] at e
        simp [hx, hw, hw1, h1, q3, q6, q7, q8, e]
        exact hlt
      · have e := spwN_at hx
        rw [if_neg h1] at e
        simp [hx, hw, hw1, h1, q3, q6, q7, q8, e]
        exact hlt
    · obtain rfl : j = l.length := by omega
      simp [q3, q6, q7, q8]
theorem w7 (l : List CmdP) (hl : l.length < 2^63) (hd : ∀ x ∈ l, x.2.2.2.2.length < 2^63) : Contract Try.prog false 7 [.ro] [.sl false 9 (l.map cmT)] [.b true] [] := by
  refine mk_contract [] Try.func7 (c := Try.f7.body.get!) (by kernel_rfl) k7 r7 (of_decide_eq_true rfl) fun _ => ?_
  unfold c7; simp
  refine callW_ms [.ro, .ro] ?_
  simp
  refine callX_of (w27 l _ hl hd (by omega) (by omega)) (by simp) ?_
  simp
  intro h
  obtain ⟨h1, h2, h3⟩ := szCms_ok (by omega) (by omega) (by omega : ¬ szS szCmF l 1048576 < 0)
  have h2' : ∀ x ∈ l, x.2.2.2.2.length ≤ 2^40 := fun x hx => by have := h2 x hx; omega
  refine callW_ms [.ro] ?_
  simp
  refine callX_of (w29 l h1 h2') (by simp) ?_
  simp
  refine callW_ms [.ro] ?_
  simp
  refine callX_of (w39 l (by omega)) (by simp) ?_
  simp
  refine callW_ms [.ro] ?_
  simp
  refine callX_of (w29 l h1 h2') (by simp) ?_
  simp
  refine callW_ms [.ro] ?_
  simp
  refine callX_of (w38 l (by omega)) (by simp) ?_
  simp
  refine callW_ms [.ro] ?_
  simp
  refine callX_of (w29 l h1 h2') (by simp) ?_
  simp
  refine callW_ms [.ro, .ro] ?_
  simp
  refine callX_of (w32 l (by omega) h2') (by simp) ?_
  simp
end Go.Proofs.YtmedelmfkciblaaT
