/- Worlds: rows of tables; sizes, copies, sameness. -/
import Derived.Test.YtmedelmfkciblaaKw1
import Derived.Test.YtmedelmfkciblaaKg
namespace Go.Proofs.YtmedelmfkciblaaT
set_option linter.unusedVariables false
set_option linter.unusedSimpArgs false
open Go

/- laws.szEntS -/
def c194 : TCode := (.seq (.ops [⟨(some 4), 6, .mv (.c (.i .i64 0)), none, []⟩])
  (.seq (.ops [⟨(some 5), 7, .mv (.t 1), none, []⟩, ⟨(some 6), 8, .mv (.t 0), none, []⟩, ⟨(some 7), 9, .len false (.t 6), none, []⟩, ⟨(some 8), 10, .bin .sub (.t 5) (.t 7), none, []⟩, ⟨(some 1), 3, .mv (.t 8), none, []⟩])
  (.seq (.seq (.ops [⟨(some 9), 11, .mv (.t 1), none, []⟩, ⟨(some 10), 12, .bin .lss (.t 9) (.c (.i .i64 0)), none, []⟩])
  (.cond (.t 10)
  (.seq (.ops [⟨(some 4), 6, .mv (.c (.i .i64 (-1))), none, []⟩])
  .ret)
  .skip))
  (.seq (.ops [⟨(some 11), 13, .mv (.t 1), none, []⟩, ⟨(some 4), 6, .mv (.t 11), none, []⟩])
  .ret))))
theorem k194 : compCode Try.prog Try.f194.ntmps Try.f194.body.get! = some c194 := by kernel_rfl
theorem r194 : resTmps Try.prog Try.f194.results.toList = some [.tmp 4] := by kernel_rfl
/- laws.toEntS -/
def c196 : TCode := (.seq (.ops [⟨(some 2), 4, .mv (.c (.sl true 2 [])), none, []⟩])
  (.seq (.ops [⟨(some 5), 7, .mv (.t 0), none, []⟩, ⟨(some 6), 8, .len false (.t 5), none, []⟩, ⟨(some 7), 9, .mkslice 2 16 [(.i .i64 0), (.i .i64 0)] (.t 6) (.t 6), none, []⟩, ⟨(some 3), 5, .mv (.t 7), none, []⟩])
  (.seq (.seq (.ops [⟨(some 4), 6, .mv (.c (.i .i64 0)), none, []⟩])
  (.block 0 (.loop (.seq (.seq (.ops [⟨(some 8), 10, .mv (.t 4), none, []⟩, ⟨(some 9), 11, .mv (.t 0), none, []⟩, ⟨(some 10), 12, .len false (.t 9), none, []⟩, ⟨(some 11), 13, .bin .lss (.t 8) (.t 10), none, []⟩])
  (.cond (.t 11)
  .skip
  (.exit 0)))
  (.seq (.block 1 (.ops [⟨(some 14), 16, .mv (.t 3), none, []⟩, ⟨(some 15), 17, .mv (.t 4), none, []⟩, ⟨(some 16), 18, .mv (.t 0), none, []⟩, ⟨(some 17), 19, .mv (.t 4), none, []⟩, ⟨(some 18), 20, .iaddr 2 (.t 16) (.t 17), none, []⟩, ⟨(some 19), 21, .load true 2 (.t 18), none, []⟩, ⟨(some 20), 22, .call 60 [((.t 19), 0)], none, []⟩, ⟨(some 21), 23, .iaddr 2 (.t 14) (.t 15), none, []⟩, ⟨none, 1005008, .store 2 (.t 21) (.t 20), none, []⟩]))
  (.ops [⟨(some 12), 14, .mv (.t 4), none, []⟩, ⟨(some 13), 15, .bin .add (.t 12) (.c (.i .i64 1)), none, []⟩, ⟨(some 4), 6, .mv (.t 13), none, []⟩]))))))
  (.seq (.ops [⟨(some 22), 24, .mv (.t 3), none, []⟩, ⟨(some 2), 4, .mv (.t 22), none, []⟩])
  .ret))))
theorem k196 : compCode Try.prog Try.f196.ntmps Try.f196.body.get! = some c196 := by kernel_rfl
theorem r196 : resTmps Try.prog Try.f196.results.toList = some [.tmp 2] := by kernel_rfl
/- laws.szValSS -/
def c195 : TCode := (.seq (.ops [⟨(some 4), 6, .mv (.c (.i .i64 0)), none, []⟩])
  (.seq (.ops [⟨(some 6), 8, .mv (.t 1), none, []⟩, ⟨(some 7), 9, .mv (.t 0), none, []⟩, ⟨(some 8), 10, .len false (.t 7), none, []⟩, ⟨(some 9), 11, .bin .sub (.t 6) (.t 8), none, []⟩, ⟨(some 1), 3, .mv (.t 9), none, []⟩])
  (.seq (.seq (.ops [⟨(some 10), 12, .mv (.t 1), none, []⟩, ⟨(some 11), 13, .bin .lss (.t 10) (.c (.i .i64 0)), none, []⟩])
  (.cond (.t 11)
  (.seq (.ops [⟨(some 4), 6, .mv (.c (.i .i64 (-1))), none, []⟩])
  .ret)
  .skip))
  (.seq (.seq (.ops [⟨(some 5), 7, .mv (.c (.i .i64 0)), none, []⟩])
  (.block 0 (.loop (.seq (.seq (.ops [⟨(some 12), 14, .mv (.t 5), none, []⟩, ⟨(some 13), 15, .mv (.t 0), none, []⟩, ⟨(some 14), 16, .len false (.t 13), none, []⟩, ⟨(some 15), 17, .bin .lss (.t 12) (.t 14), none, []⟩])
  (.cond (.t 15)
  .skip
  (.exit 0)))
  (.seq (.block 1 (.seq (.ops [⟨(some 18), 20, .mv (.t 0), none, []⟩, ⟨(some 19), 21, .mv (.t 5), none, []⟩, ⟨(some 20), 22, .iaddr 1 (.t 18) (.t 19), none, []⟩, ⟨(some 21), 23, .load false 1 (.t 20), none, []⟩, ⟨(some 22), 24, .mv (.t 1), none, []⟩, ⟨(some 23), 25, .call 99 [((.t 21), 0), ((.t 22), 0)], none, []⟩, ⟨(some 1), 3, .mv (.t 23), none, []⟩])
  (.seq (.ops [⟨(some 24), 26, .mv (.t 1), none, []⟩, ⟨(some 25), 27, .bin .lss (.t 24) (.c (.i .i64 0)), none, []⟩])
  (.cond (.t 25)
  (.seq (.ops [⟨(some 4), 6, .mv (.c (.i .i64 (-1))), none, []⟩])
  .ret)
  .skip))))
  (.ops [⟨(some 16), 18, .mv (.t 5), none, []⟩, ⟨(some 17), 19, .bin .add (.t 16) (.c (.i .i64 1)), none, []⟩, ⟨(some 5), 7, .mv (.t 17), none, []⟩]))))))
  (.seq (.ops [⟨(some 26), 28, .mv (.t 1), none, []⟩, ⟨(some 4), 6, .mv (.t 26), none, []⟩])
  .ret)))))
theorem k195 : compCode Try.prog Try.f195.ntmps Try.f195.body.get! = some c195 := by kernel_rfl
theorem r195 : resTmps Try.prog Try.f195.results.toList = some [.tmp 4] := by kernel_rfl
/- laws.toValSS -/
def c197 : TCode := (.seq (.ops [⟨(some 2), 4, .mv (.c (.sl true 1 [])), none, []⟩])
  (.seq (.ops [⟨(some 5), 7, .mv (.t 0), none, []⟩, ⟨(some 6), 8, .len false (.t 5), none, []⟩, ⟨(some 7), 9, .mkslice 1 24 [(.sl true 4 [])] (.t 6) (.t 6), none, []⟩, ⟨(some 3), 5, .mv (.t 7), none, []⟩])
  (.seq (.seq (.ops [⟨(some 4), 6, .mv (.c (.i .i64 0)), none, []⟩])
  (.block 0 (.loop (.seq (.seq (.ops [⟨(some 8), 10, .mv (.t 4), none, []⟩, ⟨(some 9), 11, .mv (.t 0), none, []⟩, ⟨(some 10), 12, .len false (.t 9), none, []⟩, ⟨(some 11), 13, .bin .lss (.t 8) (.t 10), none, []⟩])
  (.cond (.t 11)
  .skip
  (.exit 0)))
  (.seq (.block 1 (.ops [⟨(some 14), 16, .mv (.t 3), none, []⟩, ⟨(some 15), 17, .mv (.t 4), none, []⟩, ⟨(some 16), 18, .mv (.t 0), none, []⟩, ⟨(some 17), 19, .mv (.t 4), none, []⟩, ⟨(some 18), 20, .iaddr 1 (.t 16) (.t 17), none, []⟩, ⟨(some 19), 21, .load false 1 (.t 18), none, []⟩, ⟨(some 20), 22, .call 103 [((.t 19), 0)], none, []⟩, ⟨(some 21), 23, .iaddr 1 (.t 14) (.t 15), none, []⟩, ⟨none, 1005008, .store 1 (.t 21) (.t 20), none, []⟩]))
  (.ops [⟨(some 12), 14, .mv (.t 4), none, []⟩, ⟨(some 13), 15, .bin .add (.t 12) (.c (.i .i64 1)), none, []⟩, ⟨(some 4), 6, .mv (.t 13), none, []⟩]))))))
  (.seq (.ops [⟨(some 22), 24, .mv (.t 3), none, []⟩, ⟨(some 2), 4, .mv (.t 22), none, []⟩])
  .ret))))
theorem k197 : compCode Try.prog Try.f197.ntmps Try.f197.body.get! = some c197 := by kernel_rfl
theorem r197 : resTmps Try.prog Try.f197.results.toList = some [.tmp 2] := by kernel_rfl
/- laws.eqValSS -/
def c198 : TCode := (.seq (.ops [⟨(some 4), 6, .mv (.c (.b false)), none, []⟩])
  (.seq (.seq (.ops [⟨(some 6), 8, .mv (.t 0), none, []⟩, ⟨(some 7), 9, .len false (.t 6), none, []⟩, ⟨(some 8), 10, .mv (.t 1), none, []⟩, ⟨(some 9), 11, .len false (.t 8), none, []⟩, ⟨(some 10), 12, .bin .neq (.t 7) (.t 9), none, []⟩])
  (.cond (.t 10)
  (.seq (.ops [⟨(some 4), 6, .mv (.c (.b false)), none, []⟩])
  .ret)
  .skip))
  (.seq (.seq (.ops [⟨(some 5), 7, .mv (.c (.i .i64 0)), none, []⟩])
  (.block 0 (.loop (.seq (.seq (.ops [⟨(some 11), 13, .mv (.t 5), none, []⟩, ⟨(some 12), 14, .mv (.t 0), none, []⟩, ⟨(some 13), 15, .len false (.t 12), none, []⟩, ⟨(some 14), 16, .bin .lss (.t 11) (.t 13), none, []⟩])
  (.cond (.t 14)
  .skip
  (.exit 0)))
  (.seq (.block 1 (.seq (.draw [⟨(some 17), 19, .mv (.t 0), none, []⟩, ⟨(some 18), 20, .mv (.t 5), none, []⟩, ⟨(some 19), 21, .iaddr 1 (.t 17) (.t 18), none, []⟩, ⟨(some 20), 22, .load false 1 (.t 19), none, []⟩, ⟨(some 21), 23, .mv (.t 1), none, []⟩, ⟨(some 22), 24, .mv (.t 5), none, []⟩, ⟨(some 23), 25, .iaddr 1 (.t 21) (.t 22), none, []⟩, ⟨(some 24), 26, .load false 1 (.t 23), none, []⟩, ⟨(some 25), 27, .call 110 [((.t 20), 0), ((.t 24), 0)], none, []⟩, ⟨(some 26), 28, .un .not (.t 25), none, []⟩])
  (.cond (.t 26)
  (.seq (.ops [⟨(some 4), 6, .mv (.c (.b false)), none, []⟩])
  .ret)
  .skip)))
  (.ops [⟨(some 15), 17, .mv (.t 5), none, []⟩, ⟨(some 16), 18, .bin .add (.t 15) (.c (.i .i64 1)), none, []⟩, ⟨(some 5), 7, .mv (.t 16), none, []⟩]))))))
  (.seq (.ops [⟨(some 4), 6, .mv (.c (.b true)), none, []⟩])
  .ret))))
theorem k198 : compCode Try.prog Try.f198.ntmps Try.f198.body.get! = some c198 := by kernel_rfl
theorem r198 : resTmps Try.prog Try.f198.results.toList = some [.tmp 4] := by kernel_rfl
/- laws.szTable -/
def c158 : TCode := (.seq (.ops [⟨(some 2), 4, .box 3 (.t 0), none, []⟩, ⟨(some 4), 6, .mv (.c (.i .i64 0)), none, []⟩])
  (.seq (.ops [⟨(some 5), 7, .faddr 0 1 (.t 2), none, []⟩, ⟨(some 6), 8, .load false 1 (.t 5), none, []⟩, ⟨(some 7), 9, .mv (.t 1), none, []⟩, ⟨(some 8), 10, .call 68 [((.t 6), 0), ((.t 7), 0)], none, []⟩, ⟨(some 1), 3, .mv (.t 8), none, []⟩])
  (.seq (.seq (.ops [⟨(some 9), 11, .mv (.t 1), none, []⟩, ⟨(some 10), 12, .bin .lss (.t 9) (.c (.i .i64 0)), none, []⟩])
  (.cond (.t 10)
  (.seq (.ops [⟨(some 4), 6, .mv (.c (.i .i64 (-1))), none, []⟩])
  .ret)
  .skip))
  (.seq (.ops [⟨(some 11), 13, .faddr 1 1 (.t 2), none, []⟩, ⟨(some 12), 14, .load false 1 (.t 11), none, []⟩, ⟨(some 13), 15, .mv (.t 1), none, []⟩, ⟨(some 14), 16, .call 194 [((.t 12), 0), ((.t 13), 0)], none, []⟩, ⟨(some 1), 3, .mv (.t 14), none, []⟩])
  (.seq (.seq (.ops [⟨(some 15), 17, .mv (.t 1), none, []⟩, ⟨(some 16), 18, .bin .lss (.t 15) (.c (.i .i64 0)), none, []⟩])
  (.cond (.t 16)
  (.seq (.ops [⟨(some 4), 6, .mv (.c (.i .i64 (-1))), none, []⟩])
  .ret)
  .skip))
  (.seq (.ops [⟨(some 17), 19, .faddr 2 1 (.t 2), none, []⟩, ⟨(some 18), 20, .load false 1 (.t 17), none, []⟩, ⟨(some 19), 21, .mv (.t 1), none, []⟩, ⟨(some 20), 22, .call 195 [((.t 18), 0), ((.t 19), 0)], none, []⟩, ⟨(some 1), 3, .mv (.t 20), none, []⟩])
  (.seq (.seq (.ops [⟨(some 21), 23, .mv (.t 1), none, []⟩, ⟨(some 22), 24, .bin .lss (.t 21) (.c (.i .i64 0)), none, []⟩])
  (.cond (.t 22)
  (.seq (.ops [⟨(some 4), 6, .mv (.c (.i .i64 (-1))), none, []⟩])
  .ret)
  .skip))
  (.seq (.ops [⟨(some 23), 25, .mv (.t 1), none, []⟩, ⟨(some 4), 6, .mv (.t 23), none, []⟩])
  .ret))))))))
theorem k158 : compCode Try.prog Try.f158.ntmps Try.f158.body.get! = some c158 := by kernel_rfl
theorem r158 : resTmps Try.prog Try.f158.results.toList = some [.tmp 4] := by kernel_rfl
/- laws.toTable -/
def c159 : TCode := (.seq (.ops [⟨(some 1), 3, .box 3 (.t 0), none, []⟩, ⟨(some 2), 4, .box 3 (.c (.ag [(.sl true 1 []), (.sl true 2 []), (.sl true 1 [])])), none, []⟩])
  (.seq (.ops [⟨(some 3), 5, .box 3 (.c (.ag [(.sl true 1 []), (.sl true 2 []), (.sl true 1 [])])), none, []⟩])
  (.seq (.ops [⟨(some 4), 6, .faddr 0 1 (.t 1), none, []⟩, ⟨(some 5), 7, .load false 1 (.t 4), none, []⟩, ⟨(some 6), 8, .call 52 [((.t 5), 0)], none, []⟩, ⟨(some 7), 9, .faddr 0 1 (.t 3), none, []⟩, ⟨none, 1002004, .store 1 (.t 7) (.t 6), none, []⟩])
  (.seq (.ops [⟨(some 8), 10, .faddr 1 1 (.t 1), none, []⟩, ⟨(some 9), 11, .load false 1 (.t 8), none, []⟩, ⟨(some 10), 12, .call 196 [((.t 9), 0)], none, []⟩, ⟨(some 11), 13, .faddr 1 1 (.t 3), none, []⟩, ⟨none, 1003004, .store 1 (.t 11) (.t 10), none, []⟩])
  (.seq (.ops [⟨(some 12), 14, .faddr 2 1 (.t 1), none, []⟩, ⟨(some 13), 15, .load false 1 (.t 12), none, []⟩, ⟨(some 14), 16, .call 197 [((.t 13), 0)], none, []⟩, ⟨(some 15), 17, .faddr 2 1 (.t 3), none, []⟩, ⟨none, 1004004, .store 1 (.t 15) (.t 14), none, []⟩])
  (.seq (.ops [⟨(some 16), 18, .load true 3 (.t 3), none, []⟩, ⟨none, 1005001, .store 3 (.t 2) (.t 16), none, []⟩])
  .ret))))))
theorem k159 : compCode Try.prog Try.f159.ntmps Try.f159.body.get! = some c159 := by kernel_rfl
theorem r159 : resTmps Try.prog Try.f159.results.toList = some [.cell 2 true 3] := by kernel_rfl
/- laws.eqTable -/
def c162 : TCode := (.seq (.ops [⟨(some 2), 4, .box 3 (.t 0), none, []⟩, ⟨(some 3), 5, .box 3 (.t 1), none, []⟩, ⟨(some 4), 6, .mv (.c (.b false)), none, []⟩])
  (.seq (.seq (.ops [⟨(some 5), 7, .faddr 0 1 (.t 2), none, []⟩, ⟨(some 6), 8, .load false 1 (.t 5), none, []⟩, ⟨(some 7), 9, .faddr 0 1 (.t 3), none, []⟩, ⟨(some 8), 10, .load false 1 (.t 7), none, []⟩, ⟨(some 9), 11, .call 31 [((.t 6), 0), ((.t 8), 0)], none, []⟩, ⟨(some 10), 12, .un .not (.t 9), none, []⟩])
  (.cond (.t 10)
  (.seq (.ops [⟨(some 4), 6, .mv (.c (.b false)), none, []⟩])
  .ret)
  .skip))
  (.seq (.seq (.ops [⟨(some 11), 13, .faddr 1 1 (.t 2), none, []⟩, ⟨(some 12), 14, .load false 1 (.t 11), none, []⟩, ⟨(some 13), 15, .faddr 1 1 (.t 3), none, []⟩, ⟨(some 14), 16, .load false 1 (.t 13), none, []⟩, ⟨(some 15), 17, .call 54 [((.t 12), 0), ((.t 14), 0)], none, []⟩, ⟨(some 16), 18, .un .not (.t 15), none, []⟩])
  (.cond (.t 16)
  (.seq (.ops [⟨(some 4), 6, .mv (.c (.b false)), none, []⟩])
  .ret)
  .skip))
  (.seq (.seq (.ops [⟨(some 17), 19, .faddr 2 1 (.t 2), none, []⟩, ⟨(some 18), 20, .load false 1 (.t 17), none, []⟩, ⟨(some 19), 21, .faddr 2 1 (.t 3), none, []⟩, ⟨(some 20), 22, .load false 1 (.t 19), none, []⟩, ⟨(some 21), 23, .call 198 [((.t 18), 0), ((.t 20), 0)], none, []⟩, ⟨(some 22), 24, .un .not (.t 21), none, []⟩])
  (.cond (.t 22)
  (.seq (.ops [⟨(some 4), 6, .mv (.c (.b false)), none, []⟩])
  .ret)
  .skip))
  (.seq (.ops [⟨(some 4), 6, .mv (.c (.b true)), none, []⟩])
  .ret)))))
theorem k162 : compCode Try.prog Try.f162.ntmps Try.f162.body.get! = some c162 := by kernel_rfl
theorem r162 : resTmps Try.prog Try.f162.results.toList = some [.tmp 4] := by kernel_rfl
/- laws.szTableS -/
def c98 : TCode := (.seq (.ops [⟨(some 4), 6, .mv (.c (.i .i64 0)), none, []⟩])
  (.seq (.ops [⟨(some 6), 8, .mv (.t 1), none, []⟩, ⟨(some 7), 9, .mv (.t 0), none, []⟩, ⟨(some 8), 10, .len false (.t 7), none, []⟩, ⟨(some 9), 11, .bin .sub (.t 6) (.t 8), none, []⟩, ⟨(some 1), 3, .mv (.t 9), none, []⟩])
  (.seq (.seq (.ops [⟨(some 10), 12, .mv (.t 1), none, []⟩, ⟨(some 11), 13, .bin .lss (.t 10) (.c (.i .i64 0)), none, []⟩])
  (.cond (.t 11)
  (.seq (.ops [⟨(some 4), 6, .mv (.c (.i .i64 (-1))), none, []⟩])
  .ret)
  .skip))
  (.seq (.seq (.ops [⟨(some 5), 7, .mv (.c (.i .i64 0)), none, []⟩])
  (.block 0 (.loop (.seq (.seq (.ops [⟨(some 12), 14, .mv (.t 5), none, []⟩, ⟨(some 13), 15, .mv (.t 0), none, []⟩, ⟨(some 14), 16, .len false (.t 13), none, []⟩, ⟨(some 15), 17, .bin .lss (.t 12) (.t 14), none, []⟩])
  (.cond (.t 15)
  .skip
  (.exit 0)))
  (.seq (.block 1 (.seq (.ops [⟨(some 18), 20, .mv (.t 0), none, []⟩, ⟨(some 19), 21, .mv (.t 5), none, []⟩, ⟨(some 20), 22, .iaddr 3 (.t 18) (.t 19), none, []⟩, ⟨(some 21), 23, .load true 3 (.t 20), none, []⟩, ⟨(some 22), 24, .mv (.t 1), none, []⟩, ⟨(some 23), 25, .call 158 [((.t 21), 0), ((.t 22), 0)], none, []⟩, ⟨(some 1), 3, .mv (.t 23), none, []⟩])
  (.seq (.ops [⟨(some 24), 26, .mv (.t 1), none, []⟩, ⟨(some 25), 27, .bin .lss (.t 24) (.c (.i .i64 0)), none, []⟩])
  (.cond (.t 25)
  (.seq (.ops [⟨(some 4), 6, .mv (.c (.i .i64 (-1))), none, []⟩])
  .ret)
  .skip))))
  (.ops [⟨(some 16), 18, .mv (.t 5), none, []⟩, ⟨(some 17), 19, .bin .add (.t 16) (.c (.i .i64 1)), none, []⟩, ⟨(some 5), 7, .mv (.t 17), none, []⟩]))))))
  (.seq (.ops [⟨(some 26), 28, .mv (.t 1), none, []⟩, ⟨(some 4), 6, .mv (.t 26), none, []⟩])
  .ret)))))
theorem k98 : compCode Try.prog Try.f98.ntmps Try.f98.body.get! = some c98 := by kernel_rfl
theorem r98 : resTmps Try.prog Try.f98.results.toList = some [.tmp 4] := by kernel_rfl
/- laws.toTableS -/
def c102 : TCode := (.seq (.ops [⟨(some 2), 4, .mv (.c (.sl true 3 [])), none, []⟩])
  (.seq (.ops [⟨(some 5), 7, .mv (.t 0), none, []⟩, ⟨(some 6), 8, .len false (.t 5), none, []⟩, ⟨(some 7), 9, .mkslice 3 72 [(.sl true 1 []), (.sl true 2 []), (.sl true 1 [])] (.t 6) (.t 6), none, []⟩, ⟨(some 3), 5, .mv (.t 7), none, []⟩])
  (.seq (.seq (.ops [⟨(some 4), 6, .mv (.c (.i .i64 0)), none, []⟩])
  (.block 0 (.loop (.seq (.seq (.ops [⟨(some 8), 10, .mv (.t 4), none, []⟩, ⟨(some 9), 11, .mv (.t 0), none, []⟩, ⟨(some 10), 12, .len false (.t 9), none, []⟩, ⟨(some 11), 13, .bin .lss (.t 8) (.t 10), none, []⟩])
  (.cond (.t 11)
  .skip
  (.exit 0)))
  (.seq (.block 1 (.ops [⟨(some 14), 16, .mv (.t 3), none, []⟩, ⟨(some 15), 17, .mv (.t 4), none, []⟩, ⟨(some 16), 18, .mv (.t 0), none, []⟩, ⟨(some 17), 19, .mv (.t 4), none, []⟩, ⟨(some 18), 20, .iaddr 3 (.t 16) (.t 17), none, []⟩, ⟨(some 19), 21, .load true 3 (.t 18), none, []⟩, ⟨(some 20), 22, .call 159 [((.t 19), 0)], none, []⟩, ⟨(some 21), 23, .iaddr 3 (.t 14) (.t 15), none, []⟩, ⟨none, 1005008, .store 3 (.t 21) (.t 20), none, []⟩]))
  (.ops [⟨(some 12), 14, .mv (.t 4), none, []⟩, ⟨(some 13), 15, .bin .add (.t 12) (.c (.i .i64 1)), none, []⟩, ⟨(some 4), 6, .mv (.t 13), none, []⟩]))))))
  (.seq (.ops [⟨(some 22), 24, .mv (.t 3), none, []⟩, ⟨(some 2), 4, .mv (.t 22), none, []⟩])
  .ret))))
theorem k102 : compCode Try.prog Try.f102.ntmps Try.f102.body.get! = some c102 := by kernel_rfl
theorem r102 : resTmps Try.prog Try.f102.results.toList = some [.tmp 2] := by kernel_rfl
/- laws.eqTableS -/
def c109 : TCode := (.seq (.ops [⟨(some 4), 6, .mv (.c (.b false)), none, []⟩])
  (.seq (.seq (.ops [⟨(some 6), 8, .mv (.t 0), none, []⟩, ⟨(some 7), 9, .len false (.t 6), none, []⟩, ⟨(some 8), 10, .mv (.t 1), none, []⟩, ⟨(some 9), 11, .len false (.t 8), none, []⟩, ⟨(some 10), 12, .bin .neq (.t 7) (.t 9), none, []⟩])
  (.cond (.t 10)
  (.seq (.ops [⟨(some 4), 6, .mv (.c (.b false)), none, []⟩])
  .ret)
  .skip))
  (.seq (.seq (.ops [⟨(some 5), 7, .mv (.c (.i .i64 0)), none, []⟩])
  (.block 0 (.loop (.seq (.seq (.ops [⟨(some 11), 13, .mv (.t 5), none, []⟩, ⟨(some 12), 14, .mv (.t 0), none, []⟩, ⟨(some 13), 15, .len false (.t 12), none, []⟩, ⟨(some 14), 16, .bin .lss (.t 11) (.t 13), none, []⟩])
  (.cond (.t 14)
  .skip
  (.exit 0)))
  (.seq (.block 1 (.seq (.draw [⟨(some 17), 19, .mv (.t 0), none, []⟩, ⟨(some 18), 20, .mv (.t 5), none, []⟩, ⟨(some 19), 21, .iaddr 3 (.t 17) (.t 18), none, []⟩, ⟨(some 20), 22, .load true 3 (.t 19), none, []⟩, ⟨(some 21), 23, .mv (.t 1), none, []⟩, ⟨(some 22), 24, .mv (.t 5), none, []⟩, ⟨(some 23), 25, .iaddr 3 (.t 21) (.t 22), none, []⟩, ⟨(some 24), 26, .load true 3 (.t 23), none, []⟩, ⟨(some 25), 27, .call 162 [((.t 20), 0), ((.t 24), 0)], none, []⟩, ⟨(some 26), 28, .un .not (.t 25), none, []⟩])
  (.cond (.t 26)
  (.seq (.ops [⟨(some 4), 6, .mv (.c (.b false)), none, []⟩])
  .ret)
  .skip)))
  (.ops [⟨(some 15), 17, .mv (.t 5), none, []⟩, ⟨(some 16), 18, .bin .add (.t 15) (.c (.i .i64 1)), none, []⟩, ⟨(some 5), 7, .mv (.t 16), none, []⟩]))))))
  (.seq (.ops [⟨(some 4), 6, .mv (.c (.b true)), none, []⟩])
  .ret))))
theorem k109 : compCode Try.prog Try.f109.ntmps Try.f109.body.get! = some c109 := by kernel_rfl
theorem r109 : resTmps Try.prog Try.f109.results.toList = some [.tmp 4] := by kernel_rfl
/- laws.szWorld -/
def c49 : TCode := (.seq (.ops [⟨(some 2), 4, .box 4 (.t 0), none, []⟩, ⟨(some 4), 6, .mv (.c (.i .i64 0)), none, []⟩])
  (.seq (.ops [⟨(some 5), 7, .faddr 0 2 (.t 2), none, []⟩, ⟨(some 6), 8, .load true 2 (.t 5), none, []⟩, ⟨(some 7), 9, .mv (.t 1), none, []⟩, ⟨(some 8), 10, .call 97 [((.t 6), 0), ((.t 7), 0)], none, []⟩, ⟨(some 1), 3, .mv (.t 8), none, []⟩])
  (.seq (.seq (.ops [⟨(some 9), 11, .mv (.t 1), none, []⟩, ⟨(some 10), 12, .bin .lss (.t 9) (.c (.i .i64 0)), none, []⟩])
  (.cond (.t 10)
  (.seq (.ops [⟨(some 4), 6, .mv (.c (.i .i64 (-1))), none, []⟩])
  .ret)
  .skip))
  (.seq (.ops [⟨(some 11), 13, .faddr 2 1 (.t 2), none, []⟩, ⟨(some 12), 14, .load false 1 (.t 11), none, []⟩, ⟨(some 13), 15, .mv (.t 1), none, []⟩, ⟨(some 14), 16, .call 98 [((.t 12), 0), ((.t 13), 0)], none, []⟩, ⟨(some 1), 3, .mv (.t 14), none, []⟩])
  (.seq (.seq (.ops [⟨(some 15), 17, .mv (.t 1), none, []⟩, ⟨(some 16), 18, .bin .lss (.t 15) (.c (.i .i64 0)), none, []⟩])
  (.cond (.t 16)
  (.seq (.ops [⟨(some 4), 6, .mv (.c (.i .i64 (-1))), none, []⟩])
  .ret)
  .skip))
  (.seq (.ops [⟨(some 17), 19, .faddr 3 1 (.t 2), none, []⟩, ⟨(some 18), 20, .load false 1 (.t 17), none, []⟩, ⟨(some 19), 21, .mv (.t 1), none, []⟩, ⟨(some 20), 22, .call 99 [((.t 18), 0), ((.t 19), 0)], none, []⟩, ⟨(some 1), 3, .mv (.t 20), none, []⟩])
  (.seq (.seq (.ops [⟨(some 21), 23, .mv (.t 1), none, []⟩, ⟨(some 22), 24, .bin .lss (.t 21) (.c (.i .i64 0)), none, []⟩])
  (.cond (.t 22)
  (.seq (.ops [⟨(some 4), 6, .mv (.c (.i .i64 (-1))), none, []⟩])
  .ret)
  .skip))
  (.seq (.ops [⟨(some 23), 25, .mv (.t 1), none, []⟩, ⟨(some 4), 6, .mv (.t 23), none, []⟩])
  .ret))))))))
theorem k49 : compCode Try.prog Try.f49.ntmps Try.f49.body.get! = some c49 := by kernel_rfl
theorem r49 : resTmps Try.prog Try.f49.results.toList = some [.tmp 4] := by kernel_rfl
/- laws.toWorld -/
def c51 : TCode := (.seq (.ops [⟨(some 1), 3, .box 4 (.t 0), none, []⟩, ⟨(some 2), 4, .box 4 (.c (.ag [(.sl true 1 []), (.sl true 1 []), (.sl true 3 []), (.sl true 4 [])])), none, []⟩])
  (.seq (.ops [⟨(some 3), 5, .box 4 (.c (.ag [(.sl true 1 []), (.sl true 1 []), (.sl true 3 []), (.sl true 4 [])])), none, []⟩])
  (.seq (.ops [⟨(some 4), 6, .faddr 0 2 (.t 1), none, []⟩, ⟨(some 5), 7, .load true 2 (.t 4), none, []⟩, ⟨(some 6), 8, .call 101 [((.t 5), 0)], none, []⟩, ⟨(some 7), 9, .faddr 0 2 (.t 3), none, []⟩, ⟨none, 1002004, .store 2 (.t 7) (.t 6), none, []⟩])
  (.seq (.ops [⟨(some 8), 10, .faddr 2 1 (.t 1), none, []⟩, ⟨(some 9), 11, .load false 1 (.t 8), none, []⟩, ⟨(some 10), 12, .call 102 [((.t 9), 0)], none, []⟩, ⟨(some 11), 13, .faddr 2 1 (.t 3), none, []⟩, ⟨none, 1003004, .store 1 (.t 11) (.t 10), none, []⟩])
  (.seq (.ops [⟨(some 12), 14, .faddr 3 1 (.t 1), none, []⟩, ⟨(some 13), 15, .load false 1 (.t 12), none, []⟩, ⟨(some 14), 16, .call 103 [((.t 13), 0)], none, []⟩, ⟨(some 15), 17, .faddr 3 1 (.t 3), none, []⟩, ⟨none, 1004004, .store 1 (.t 15) (.t 14), none, []⟩])
  (.seq (.ops [⟨(some 16), 18, .load true 4 (.t 3), none, []⟩, ⟨none, 1005001, .store 4 (.t 2) (.t 16), none, []⟩])
  .ret))))))
theorem k51 : compCode Try.prog Try.f51.ntmps Try.f51.body.get! = some c51 := by kernel_rfl
theorem r51 : resTmps Try.prog Try.f51.results.toList = some [.cell 2 true 4] := by kernel_rfl
/- laws.eqWorld -/
def c55 : TCode := (.seq (.ops [⟨(some 2), 4, .box 4 (.t 0), none, []⟩, ⟨(some 3), 5, .box 4 (.t 1), none, []⟩, ⟨(some 4), 6, .mv (.c (.b false)), none, []⟩])
  (.seq (.seq (.ops [⟨(some 5), 7, .faddr 0 2 (.t 2), none, []⟩, ⟨(some 6), 8, .load true 2 (.t 5), none, []⟩, ⟨(some 7), 9, .faddr 0 2 (.t 3), none, []⟩, ⟨(some 8), 10, .load true 2 (.t 7), none, []⟩, ⟨(some 9), 11, .call 108 [((.t 6), 0), ((.t 8), 0)], none, []⟩, ⟨(some 10), 12, .un .not (.t 9), none, []⟩])
  (.cond (.t 10)
  (.seq (.ops [⟨(some 4), 6, .mv (.c (.b false)), none, []⟩])
  .ret)
  .skip))
  (.seq (.seq (.ops [⟨(some 11), 13, .faddr 2 1 (.t 2), none, []⟩, ⟨(some 12), 14, .load false 1 (.t 11), none, []⟩, ⟨(some 13), 15, .faddr 2 1 (.t 3), none, []⟩, ⟨(some 14), 16, .load false 1 (.t 13), none, []⟩, ⟨(some 15), 17, .call 109 [((.t 12), 0), ((.t 14), 0)], none, []⟩, ⟨(some 16), 18, .un .not (.t 15), none, []⟩])
  (.cond (.t 16)
  (.seq (.ops [⟨(some 4), 6, .mv (.c (.b false)), none, []⟩])
  .ret)
  .skip))
  (.seq (.seq (.ops [⟨(some 17), 19, .faddr 3 1 (.t 2), none, []⟩, ⟨(some 18), 20, .load false 1 (.t 17), none, []⟩, ⟨(some 19), 21, .faddr 3 1 (.t 3), none, []⟩, ⟨(some 20), 22, .load false 1 (.t 19), none, []⟩, ⟨(some 21), 23, .call 110 [((.t 18), 0), ((.t 20), 0)], none, []⟩, ⟨(some 22), 24, .un .not (.t 21), none, []⟩])
  (.cond (.t 22)
  (.seq (.ops [⟨(some 4), 6, .mv (.c (.b false)), none, []⟩])
  .ret)
  .skip))
  (.seq (.ops [⟨(some 4), 6, .mv (.c (.b true)), none, []⟩])
  .ret)))))
theorem k55 : compCode Try.prog Try.f55.ntmps Try.f55.body.get! = some c55 := by kernel_rfl
theorem r55 : resTmps Try.prog Try.f55.results.toList = some [.tmp 4] := by kernel_rfl

/-- Rows whose cells hold slices: one's own, and only read. -/
theorem fzLL_mapR {α : Type} {f g : α → List TV} (h : ∀ x, fzL (f x) = g x) (l : List α) : fzLL (l.map f) = l.map g := by
  induction l with
  | nil => rfl
  | cons a l ih => simp [fzLL, h, ih]

@[simp] def cvT (v : List ValP) : List TV := [.sl false 4 (v.map vT)]
@[simp] def cvO (v : List ValP) : List TV := [.sl true 4 (v.map vT)]
@[simp] theorem fzL_cvT (v : List ValP) : fzL (cvT v) = cvT v := by simp
@[simp] theorem fzL_cvO (v : List ValP) : fzL (cvO v) = cvT v := by simp
@[simp] theorem fzLL_cvT (l : List (List ValP)) : fzLL (l.map cvT) = l.map cvT := fzLL_map fzL_cvT l
@[simp] theorem fzLL_cvO (l : List (List ValP)) : fzLL (l.map cvO) = l.map cvT := fzLL_mapR fzL_cvO l
@[simp] theorem noROLL_cvO (l : List (List ValP)) : noROLL (l.map cvO) = true := noROLL_map (fun _ => by simp [noROL, noRO]) l
@[simp] theorem noref_cvT (l : List (List ValP)) : (l.map cvT).all (·.all noref) = true := noref_map (fun _ => by simp) l

abbrev EntP := Int × Int
abbrev TableP := List Int × List (Int × Int) × List (List ValP)
@[simp] def tbT (t : TableP) : List TV := [.sl false 1 (t.1.map iT), .sl false 2 (t.2.1.map eT), .sl false 1 (t.2.2.map cvT)]
@[simp] def tbO (t : TableP) : List TV := [.sl true 1 (t.1.map iT), .sl true 2 (t.2.1.map eT), .sl true 1 (t.2.2.map cvO)]
@[simp] theorem fzL_tbT (t : TableP) : fzL (tbT t) = tbT t := by simp
@[simp] theorem fzL_tbO (t : TableP) : fzL (tbO t) = tbT t := by simp
@[simp] theorem fzLL_tbT (l : List TableP) : fzLL (l.map tbT) = l.map tbT := fzLL_map fzL_tbT l
@[simp] theorem fzLL_tbO (l : List TableP) : fzLL (l.map tbO) = l.map tbT := fzLL_mapR fzL_tbO l
@[simp] theorem noROLL_tbO (l : List TableP) : noROLL (l.map tbO) = true := noROLL_map (fun _ => by simp [noROL, noRO]) l
@[simp] theorem noref_tbT (l : List TableP) : (l.map tbT).all (·.all noref) = true := noref_map (fun _ => by simp) l
abbrev tableR (t : TableP) : TV := .ag (tbT t)
abbrev tableO (t : TableP) : TV := .ag (tbO t)
abbrev worldR (g f : List Int) (ts : List TableP) (rs : List ValP) : TV := .ag [.sl false 1 (g.map iT), .sl false 1 (f.map iT), .sl false 3 (ts.map tbT), .sl false 4 (rs.map vT)]
abbrev worldO (g f : List Int) (ts : List TableP) (rs : List ValP) : TV := .ag [.sl true 1 (g.map iT), .sl true 1 (f.map iT), .sl true 3 (ts.map tbO), .sl true 4 (rs.map vT)]

/-! ### sizes -/
def sumN {α : Type} (c : α → Nat) : List α → Nat
  | [] => 0
  | x :: l => c x + sumN c l
theorem sumN_mem {α : Type} {c : α → Nat} {x : α} : ∀ {l : List α}, x ∈ l → c x ≤ sumN c l
  | y :: l, h => by
    rcases List.mem_cons.1 h with rfl | h
    · simp [sumN]
    · have := sumN_mem (c := c) h; simp only [sumN]; omega
theorem sumN_snoc {α : Type} (c : α → Nat) (l : List α) (x : α) : sumN c (l ++ [x]) = sumN c l + c x := by
  induction l with
  | nil => simp [sumN]
  | cons y l ih => simp [sumN, ih]; omega
theorem sumN_take {α : Type} (c : α → Nat) (l : List α) (j : Nat) : sumN c (l.take j) ≤ sumN c l := by
  induction l generalizing j with
  | nil => simp [sumN]
  | cons y l ih => cases j with
    | zero => simp [sumN]
    | succ j => have := ih j; simp only [List.take_succ_cons, sumN]; omega
/-- What is taken off, told as a sum. -/
structure SzC {α : Type} (f : α → Int → Int) (c : α → Nat) : Prop where
  le : ∀ x m, 0 ≤ m → f x m ≤ m
  neg : ∀ x m, f x m < 0 → f x m = -1
  eq : ∀ x m, 0 ≤ m → 0 ≤ f x m → f x m = m - c x
theorem szA_eq {α : Type} {f : α → Int → Int} {c : α → Nat} (h : SzC f c) : ∀ (l : List α) (n : Int), 0 ≤ n → 0 ≤ szA f l n → szA f l n = n - sumN c l
  | [], n, _, _ => by simp [sumN]
  | x :: l, n, h0, h1 => by
    have e : szA f (x :: l) n = szA f l (f x n) := by show szA f l (if n < 0 then -1 else f x n) = _; rw [if_neg (by omega)]
    rw [e] at h1 ⊢
    have hx : 0 ≤ f x n := by
      rcases Int.lt_or_le (f x n) 0 with h' | h'
      · rw [h.neg x n h', szA_neg f l _ rfl] at h1; omega
      · exact h'
    rw [szA_eq h l _ hx h1, h.eq x n h0 hx]
    simp only [sumN]; omega
theorem szS_C {α : Type} {f : α → Int → Int} {c : α → Nat} (h : SzC f c) : SzC (fun (l : List α) n => szS f l n) (fun l => l.length + sumN c l) := by
  refine ⟨fun l m h0 => ?_, fun l m h1 => szS_neg h.neg l m h1, fun l m h0 h1 => ?_⟩
  · rcases Int.lt_or_le (szS f l m) 0 with h' | h'
    · omega
    · exact (szS_lo h.le h0 (by omega)).2.1
  · obtain ⟨_, _, h4, _⟩ := szS_lo h.le h0 (by omega : ¬ szS f l m < 0)
    have e : szF m l.length = m - l.length := by unfold szF; rw [if_neg (by omega)]
    have e2 : szS f l m = szA f l (m - l.length) := by unfold szS; rw [e, if_neg (by omega)]
    show szS f l m = _
    rw [e2] at h1 ⊢
    rw [szA_eq h l _ (by omega) h1]; omega
theorem szF_C {α : Type} (c : α → Nat) : SzC (fun (x : α) n => szF n (c x)) c := by
  refine ⟨fun x m h => ?_, fun x m h => szF_neg _ _ h, fun x m h0 h => ?_⟩
  · show szF m (c x) ≤ m
    unfold szF; split <;> omega
  · revert h; show 0 ≤ szF m (c x) → szF m (c x) = _
    unfold szF; split <;> omega
/-- One behind the other. -/
def szTwo {α : Type} (f g : α → Int → Int) (x : α) (n : Int) : Int := if f x n < 0 then -1 else g x (f x n)
theorem szTwo_C {α : Type} {f g : α → Int → Int} {c d : α → Nat} (hf : SzC f c) (hg : SzC g d) : SzC (szTwo f g) (fun x => c x + d x) := by
  refine ⟨fun x m h => ?_, fun x m h => ?_, fun x m h0 h => ?_⟩
  · unfold szTwo; split
    · omega
    · have := hf.le x m h; have := hg.le x (f x m) (by omega); omega
  · revert h; unfold szTwo; split
    · omega
    · exact hg.neg _ _
  · revert h; unfold szTwo; split
    · omega
    · intro h1
      rw [hg.eq x _ (by omega) h1, hf.eq x m h0 (by omega)]; omega

theorem w194 (l : List (Int × Int)) (n : Int) (hl : l.length < 2^63) (hn : n < 2^62) (hn0 : 0 ≤ n) : Contract Try.prog false 194 [.ro, .ro] [.sl false 2 (l.map eT), .i .i64 n] [.i .i64 (szF n l.length)] [] := by
  refine mk_contract [] Try.func194 (c := Try.f194.body.get!) (by kernel_rfl) k194 r194 (of_decide_eq_true rfl) fun _ => ?_
  have hw : IntKind.i64.wrap (n - l.length) = n - l.length := wrap_id (by omega) (by omega)
  unfold c194; unfold szF; simp [hw]
  omega
def szVF (v : List ValP) (n : Int) : Int := szF n v.length
theorem szV_C : SzC szVF (fun v => v.length) := szF_C _
theorem w195 (l : List (List ValP)) (n : Int) (hl : l.length < 2^63) (hd : ∀ v ∈ l, v.length < 2^63) (hn : n < 2^62) (hn0 : 0 ≤ n) : Contract Try.prog false 195 [.ro, .ro] [.sl false 1 (l.map cvT), .i .i64 n] [.i .i64 (szS szVF l n)] [] := by
  refine mk_contract [] Try.func195 (c := Try.f195.body.get!) (by kernel_rfl) k195 r195 (of_decide_eq_true rfl) fun _ => ?_
  have hw : IntKind.i64.wrap (n - l.length) = n - l.length := wrap_id (by omega) (by omega)
  unfold c195; simp [hw]
  refine ⟨fun h => ?_, fun h => ?_⟩
  · simp [szS, szF, h]
  have e : szF n l.length = n - l.length := by unfold szF; rw [if_neg (by omega)]
  have e2 : szS szVF l n = szA szVF l (n - l.length) := by unfold szS; rw [e, if_neg (by omega)]
  rw [e2]
  refine twp_for l.length (fun j s => s.t 0 = .sl false 1 (l.map cvT) ∧ s.t 1 = .i .i64 (szA szVF (l.take j) (n - l.length)) ∧ s.t 5 = .i .i64 j ∧ 0 ≤ szA szVF (l.take j) (n - l.length) ∧ s.H = lk [(1, [])]) [] (by simp) ?_ ?_
  · simp; omega
  · rintro j s hj ⟨q0, q1, q5, h0, qH⟩
    rw [nf_of qH]
    simp [q0, q1, q5]
    refine ⟨fun hlt => ?_, fun hge => ?_⟩
    · have hw : IntKind.i64.wrap (j + 1) = j + 1 := wrap_id (by omega) (by omega)
      obtain ⟨x, hx⟩ := get_some hlt
      have hle := (szA_ok szV_C.le (l.take j) _ h0 (by omega)).1
      have hs : szA szVF (l.take (j + 1)) (n - l.length) = szVF x (szA szVF (l.take j) (n - l.length)) := by
        rw [take_snoc hx, szA_snoc, if_neg (by omega)]
      have hng := szV_C.neg x (szA szVF (l.take j) (n - l.length))
      have hng2 := szA_take szVF l (n - l.length) (j + 1)
      rw [hs] at hng2
      generalize szA szVF (l.take j) (n - l.length) = m at *
      simp [hx, hw, q0, q1, q5]
      refine callW_ms [.ro, .ro] ?_
      simp
      refine callX_of (w99 x m (hd x (List.mem_of_getElem? hx)) (by omega) h0) (by simp) ?_
      simp [hw, q0, q1, q5]
      have hu : szF m x.length = szVF x m := rfl
      rw [hu]
      generalize szVF x m = m' at *
      refine ⟨fun h1 => (hng2 (hng h1)).symm, fun h1 => ⟨hlt, by rw [hs], by rw [hs]; omega⟩⟩
    · obtain rfl : j = l.length := by omega
      simp [q0, q1, q5]
def szTF : TableP → Int → Int := szTwo (fun t n => szF n t.1.length) (szTwo (fun t n => szF n t.2.1.length) fun t n => szS szVF t.2.2 n)
def cT (t : TableP) : Nat := t.1.length + (t.2.1.length + (t.2.2.length + sumN (fun v => v.length) t.2.2))
theorem szT_C : SzC szTF cT := by
  have h3 : SzC (fun (t : TableP) n => szS szVF t.2.2 n) (fun t => t.2.2.length + sumN (fun v => v.length) t.2.2) :=
    ⟨fun t m h => (szS_C szV_C).le t.2.2 m h, fun t m h => (szS_C szV_C).neg t.2.2 m h, fun t m h0 h => (szS_C szV_C).eq t.2.2 m h0 h⟩
  exact szTwo_C (szF_C _) (szTwo_C (szF_C _) h3)
def bdT (t : TableP) : Prop := t.1.length < 2^63 ∧ t.2.1.length < 2^63 ∧ t.2.2.length < 2^63 ∧ ∀ v ∈ t.2.2, v.length < 2^63
theorem w158 (t : TableP) (n : Int) (hb : bdT t) (hn : n < 2^62) (hn0 : 0 ≤ n) : Contract Try.prog false 158 [.ro, .ro] [tableR t, .i .i64 n] [.i .i64 (szTF t n)] [] := by
  refine mk_contract [] Try.func158 (c := Try.f158.body.get!) (by kernel_rfl) k158 r158 (of_decide_eq_true rfl) fun _ => ?_
  obtain ⟨b1, b2, b3, b4⟩ := hb
  have e : szTF t n = if szF n t.1.length < 0 then -1 else if szF (szF n t.1.length) t.2.1.length < 0 then -1 else szS szVF t.2.2 (szF (szF n t.1.length) t.2.1.length) := rfl
  have hA := szF_le n t.1.length (by omega) hn0
  unfold c158; simp
  refine callW_ms [.ro, .ro] ?_
  simp
  refine callX_of (w68 t.1 n b1 hn hn0) (by simp) ?_
  simp
  refine ⟨fun h => ?_, fun h => ?_⟩
  · rw [e, if_pos h]
  rw [if_neg (by omega)] at e
  generalize szF n t.1.length = a at *
  have hB := szF_le a t.2.1.length (by omega) h
  refine callW_ms [.ro, .ro] ?_
  simp
  refine callX_of (w194 t.2.1 a b2 (by omega) h) (by simp) ?_
  simp
  refine ⟨fun h => ?_, fun h => ?_⟩
  · rw [e, if_pos h]
  rw [if_neg (by omega)] at e
  generalize szF a t.2.1.length = b at *
  refine callW_ms [.ro, .ro] ?_
  simp
  refine callX_of (w195 t.2.2 b b3 b4 (by omega) h) (by simp) ?_
  simp
  rw [e]
  exact ⟨fun h => (szS_neg szV_C.neg _ _ h).symm, fun _ => rfl⟩
theorem w98 (l : List TableP) (n : Int) (hl : l.length < 2^63) (hd : ∀ t ∈ l, bdT t) (hn : n < 2^62) (hn0 : 0 ≤ n) : Contract Try.prog false 98 [.ro, .ro] [.sl false 3 (l.map tbT), .i .i64 n] [.i .i64 (szS szTF l n)] [] := by
  refine mk_contract [] Try.func98 (c := Try.f98.body.get!) (by kernel_rfl) k98 r98 (of_decide_eq_true rfl) fun _ => ?_
  have hw : IntKind.i64.wrap (n - l.length) = n - l.length := wrap_id (by omega) (by omega)
  unfold c98; simp [hw]
  refine ⟨fun h => ?_, fun h => ?_⟩
  · simp [szS, szF, h]
  have e : szF n l.length = n - l.length := by unfold szF; rw [if_neg (by omega)]
  have e2 : szS szTF l n = szA szTF l (n - l.length) := by unfold szS; rw [e, if_neg (by omega)]
  rw [e2]
  refine twp_for l.length (fun j s => s.t 0 = .sl false 3 (l.map tbT) ∧ s.t 1 = .i .i64 (szA szTF (l.take j) (n - l.length)) ∧ s.t 5 = .i .i64 j ∧ 0 ≤ szA szTF (l.take j) (n - l.length) ∧ s.H = lk [(1, [])]) [] (by simp) ?_ ?_
  · simp; omega
  · rintro j s hj ⟨q0, q1, q5, h0, qH⟩
    rw [nf_of qH]
    simp [q0, q1, q5]
    refine ⟨fun hlt => ?_, fun hge => ?_⟩
    · have hw : IntKind.i64.wrap (j + 1) = j + 1 := wrap_id (by omega) (by omega)
      obtain ⟨x, hx⟩ := get_some hlt
      have hle := (szA_ok szT_C.le (l.take j) _ h0 (by omega)).1
      have hs : szA szTF (l.take (j + 1)) (n - l.length) = szTF x (szA szTF (l.take j) (n - l.length)) := by
        rw [take_snoc hx, szA_snoc, if_neg (by omega)]
      have hng := szT_C.neg x (szA szTF (l.take j) (n - l.length))
      have hng2 := szA_take szTF l (n - l.length) (j + 1)
      rw [hs] at hng2
      generalize szA szTF (l.take j) (n - l.length) = m at *
      simp [hx, hw, q0, q1, q5]
      refine callW_ms [.ro, .ro] ?_
      simp
      refine callX_of (w158 x m (hd x (List.mem_of_getElem? hx)) (by omega) h0) (by simp) ?_
      simp [hw, q0, q1, q5]
      generalize szTF x m = m' at *
      refine ⟨fun h1 => (hng2 (hng h1)).symm, fun h1 => ⟨hlt, by rw [hs], by rw [hs]; omega⟩⟩
    · obtain rfl : j = l.length := by omega
      simp [q0, q1, q5]
abbrev WorldP := List Int × List Int × List TableP × List ValP
def szWF : WorldP → Int → Int := szTwo (fun w n => szEntsF w.1 w.2.1 n) (szTwo (fun w n => szS szTF w.2.2.1 n) fun w n => szF n w.2.2.2.length)
def cW (w : WorldP) : Nat := (w.1.length + w.2.1.length) + ((w.2.2.1.length + sumN cT w.2.2.1) + w.2.2.2.length)
theorem szE_C : SzC (fun (w : WorldP) n => szEntsF w.1 w.2.1 n) (fun w => w.1.length + w.2.1.length) :=
  szTwo_C (f := fun (w : WorldP) n => szF n w.1.length) (g := fun (w : WorldP) n => szF n w.2.1.length) (szF_C _) (szF_C _)
theorem szW_C : SzC szWF cW := by
  have h3 : SzC (fun (w : WorldP) n => szS szTF w.2.2.1 n) (fun w => w.2.2.1.length + sumN cT w.2.2.1) :=
    ⟨fun w m h => (szS_C szT_C).le w.2.2.1 m h, fun w m h => (szS_C szT_C).neg w.2.2.1 m h, fun w m h0 h => (szS_C szT_C).eq w.2.2.1 m h0 h⟩
  exact szTwo_C szE_C (szTwo_C h3 (szF_C _))
def bdW (w : WorldP) : Prop := w.1.length < 2^63 ∧ w.2.1.length < 2^63 ∧ (w.2.2.1.length < 2^63 ∧ ∀ t ∈ w.2.2.1, bdT t) ∧ w.2.2.2.length < 2^63
theorem w49 (w : WorldP) (n : Int) (hb : bdW w) (hn : n < 2^62) (hn0 : 0 ≤ n) : Contract Try.prog false 49 [.ro, .ro] [worldR w.1 w.2.1 w.2.2.1 w.2.2.2, .i .i64 n] [.i .i64 (szWF w n)] [] := by
  refine mk_contract [] Try.func49 (c := Try.f49.body.get!) (by kernel_rfl) k49 r49 (of_decide_eq_true rfl) fun _ => ?_
  obtain ⟨b1, b2, ⟨b3, b4⟩, b5⟩ := hb
  have e : szWF w n = if szEntsF w.1 w.2.1 n < 0 then -1 else if szS szTF w.2.2.1 (szEntsF w.1 w.2.1 n) < 0 then -1 else szF (szS szTF w.2.2.1 (szEntsF w.1 w.2.1 n)) w.2.2.2.length := rfl
  have hA : szEntsF w.1 w.2.1 n ≤ n := szE_C.le w n hn0
  unfold c49; simp
  refine callW_ms [.ro, .ro] ?_
  simp [entsR]
  refine callX_of (w97 w.1 w.2.1 n b1 b2 hn hn0) (by simp) ?_
  simp
  refine ⟨fun h => ?_, fun h => ?_⟩
  · rw [e, if_pos h]
  rw [if_neg (by omega)] at e
  generalize szEntsF w.1 w.2.1 n = a at *
  have hB : szS szTF w.2.2.1 a ≤ a := (szS_C szT_C).le w.2.2.1 a h
  refine callW_ms [.ro, .ro] ?_
  simp
  refine callX_of (w98 w.2.2.1 a b3 b4 (by omega) h) (by simp) ?_
  simp
  refine ⟨fun h => ?_, fun h => ?_⟩
  · rw [e, if_pos h]
  rw [if_neg (by omega)] at e
  generalize szS szTF w.2.2.1 a = b at *
  refine callW_ms [.ro, .ro] ?_
  simp
  refine callX_of (w99 w.2.2.2 b b5 (by omega) h) (by simp) ?_
  simp
  rw [e]
  exact ⟨fun h => (szF_neg _ _ h).symm, fun _ => rfl⟩

/-! ### copies -/
theorem w196 (l : List (Int × Int)) (hl : l.length ≤ 2^40) : Contract Try.prog false 196 [.ro] [.sl false 2 (l.map eT)] [.sl true 2 (l.map eT)] [] := by
  refine mk_contract [] Try.func196 (c := Try.f196.body.get!) (by kernel_rfl) k196 r196 (of_decide_eq_true rfl) fun _ => ?_
  unfold c196; simp
  refine ⟨by omega, ?_⟩
  refine twp_for l.length (fun j s => s.t 0 = .sl false 2 (l.map eT) ∧ s.t 3 = .rf [(9, 0)] 0 l.length ∧ s.t 4 = .i .i64 j ∧ s.H = lk [(1, []), (9, [.sl true 2 ((l.map eT).take j ++ List.replicate (l.length - j) [.i .i64 0, .i .i64 0])])]) [] (by simp) ?_ ?_
  · simp
  · rintro j s hj ⟨q0, q3, q4, qH⟩
    rw [nf_of qH]
    simp [q0, q3, q4]
    refine ⟨fun hlt => ?_, fun hge => ?_⟩
    · have hw : IntKind.i64.wrap (j + 1) = j + 1 := wrap_id (by omega) (by omega)
      obtain ⟨x, hx⟩ := get_some hlt
      have hmin : min j l.length = j := by omega
      simp [hx, hw, q0, q3, q4]
      refine callW_ms [.ro] ?_
      simp [entT]
      refine callX_of (w60 x.1 x.2) (by simp) ?_
      simp [entT, hw, q0, q3, q4, rep_at hlt, mapsnoc hx, hmin]
      omega
    · obtain rfl : j = l.length := by omega
      simp [q0, q3, q4]
theorem w197 (l : List (List ValP)) (hl : l.length ≤ 2^40) (hd : ∀ v ∈ l, v.length ≤ 2^40) : Contract Try.prog false 197 [.ro] [.sl false 1 (l.map cvT)] [.sl true 1 (l.map cvO)] [] := by
  refine mk_contract [] Try.func197 (c := Try.f197.body.get!) (by kernel_rfl) k197 r197 (of_decide_eq_true rfl) fun _ => ?_
  unfold c197; simp
  refine ⟨by omega, ?_⟩
  refine twp_for l.length (fun j s => s.t 0 = .sl false 1 (l.map cvT) ∧ s.t 3 = .rf [(9, 0)] 0 l.length ∧ s.t 4 = .i .i64 j ∧ s.H = lk [(1, []), (9, [.sl true 1 ((l.map cvO).take j ++ List.replicate (l.length - j) [.sl true 4 []])])]) [22] (by simp) ?_ ?_
  · simp
  · rintro j s hj ⟨q0, q3, q4, qH⟩
    rw [nf_of qH]
    simp [q0, q3, q4]
    refine ⟨fun hlt => ?_, fun hge => ?_⟩
    · have hw : IntKind.i64.wrap (j + 1) = j + 1 := wrap_id (by omega) (by omega)
      obtain ⟨x, hx⟩ := get_some hlt
      have hmin : min j l.length = j := by omega
      simp [hx, hw, q0, q3, q4]
      refine callW_ms [.ro] ?_
      simp
      refine callX_of (w103 x (hd x (List.mem_of_getElem? hx))) (by simp) ?_
      simp [hw, q0, q3, q4, rep_at hlt, mapsnoc hx, hmin]
      omega
    · obtain rfl : j = l.length := by omega
      simp [q0, q3, q4]
def okT (t : TableP) : Prop := t.1.length ≤ 2^36 ∧ t.2.1.length ≤ 2^36 ∧ t.2.2.length ≤ 2^36 ∧ ∀ v ∈ t.2.2, v.length ≤ 2^36
theorem w159 (t : TableP) (h : okT t) : Contract Try.prog false 159 [.ro] [tableR t] [tableO t] [] := by
  refine mk_contract [] Try.func159 (c := Try.f159.body.get!) (by kernel_rfl) k159 r159 (of_decide_eq_true rfl) fun _ => ?_
  obtain ⟨h1, h2, h3, h4⟩ := h
  unfold c159; simp
  refine callW_ms [.ro] ?_
  simp
  refine callX_of (w52 t.1 (by omega)) (by simp) ?_
  simp
  refine callW_ms [.ro] ?_
  simp
  refine callX_of (w196 t.2.1 (by omega)) (by simp) ?_
  simp
  refine callW_ms [.ro] ?_
  simp
  refine callX_of (w197 t.2.2 (by omega) (fun v hv => by have := h4 v hv; omega)) (by simp) ?_
  simp
theorem w102 (l : List TableP) (hl : l.length ≤ 2^36) (hd : ∀ t ∈ l, okT t) : Contract Try.prog false 102 [.ro] [.sl false 3 (l.map tbT)] [.sl true 3 (l.map tbO)] [] := by
  refine mk_contract [] Try.func102 (c := Try.f102.body.get!) (by kernel_rfl) k102 r102 (of_decide_eq_true rfl) fun _ => ?_
  unfold c102; simp
  refine ⟨by omega, ?_⟩
  refine twp_for l.length (fun j s => s.t 0 = .sl false 3 (l.map tbT) ∧ s.t 3 = .rf [(9, 0)] 0 l.length ∧ s.t 4 = .i .i64 j ∧ s.H = lk [(1, []), (9, [.sl true 3 ((l.map tbO).take j ++ List.replicate (l.length - j) [.sl true 1 [], .sl true 2 [], .sl true 1 []])])]) [22] (by simp) ?_ ?_
  · simp
  · rintro j s hj ⟨q0, q3, q4, qH⟩
    rw [nf_of qH]
    simp [q0, q3, q4]
    refine ⟨fun hlt => ?_, fun hge => ?_⟩
    · have hw : IntKind.i64.wrap (j + 1) = j + 1 := wrap_id (by omega) (by omega)
      obtain ⟨x, hx⟩ := get_some hlt
      have hmin : min j l.length = j := by omega
      simp [hx, hw, q0, q3, q4]
      refine callW_ms [.ro] ?_
      simp
      refine callX_of (w159 x (hd x (List.mem_of_getElem? hx))) (by simp) ?_
      simp [hw, q0, q3, q4, rep_at hlt, mapsnoc hx, hmin]
      omega
    · obtain rfl : j = l.length := by omega
      simp [q0, q3, q4]
def okW (w : WorldP) : Prop := w.1.length ≤ 2^36 ∧ w.2.1.length ≤ 2^36 ∧ (w.2.2.1.length ≤ 2^36 ∧ ∀ t ∈ w.2.2.1, okT t) ∧ w.2.2.2.length ≤ 2^36
theorem szW_ok {w : WorldP} {n : Int} (h0 : 0 ≤ n) (hn : n ≤ 2^36) (h : ¬ szWF w n < 0) : okW w ∧ (cW w : Int) ≤ n := by
  have e := szW_C.eq w n h0 (by omega)
  have hc : (cW w : Int) ≤ n := by omega
  refine ⟨⟨?_, ?_, ⟨?_, fun t ht => ?_⟩, ?_⟩, hc⟩
  · unfold cW at hc; omega
  · unfold cW at hc; omega
  · unfold cW at hc; omega
  · have h1 := sumN_mem (c := cT) ht
    have h2 : cT t ≤ 2^36 := by unfold cW at hc; omega
    refine ⟨?_, ?_, ?_, fun v hv => ?_⟩
    · unfold cT at h2; omega
    · unfold cT at h2; omega
    · unfold cT at h2; omega
    · have h3 : v.length ≤ sumN (fun v : List ValP => v.length) t.2.2 := sumN_mem (c := fun v : List ValP => v.length) hv
      unfold cT at h2; omega
  · unfold cW at hc; omega
theorem w51 (w : WorldP) (h : okW w) : Contract Try.prog false 51 [.ro] [worldR w.1 w.2.1 w.2.2.1 w.2.2.2] [worldO w.1 w.2.1 w.2.2.1 w.2.2.2] [] := by
  refine mk_contract [] Try.func51 (c := Try.f51.body.get!) (by kernel_rfl) k51 r51 (of_decide_eq_true rfl) fun _ => ?_
  obtain ⟨h1, h2, ⟨h3, h4⟩, h5⟩ := h
  unfold c51; simp
  refine callW_ms [.ro] ?_
  simp [entsR]
  refine callX_of (w101 w.1 w.2.1 (by omega) (by omega)) (by simp) ?_
  simp [entsO]
  refine callW_ms [.ro] ?_
  simp
  refine callX_of (w102 w.2.2.1 h3 h4) (by simp) ?_
  simp
  refine callW_ms [.ro] ?_
  simp
  refine callX_of (w103 w.2.2.2 (by omega)) (by simp) ?_
  simp

/-! ### sameness -/
theorem w198 (l : List (List ValP)) (hl : l.length ≤ 2^40) (hd : ∀ v ∈ l, v.length ≤ 2^40) : Contract Try.prog false 198 [.ro, .ro] [.sl false 1 (l.map cvT), .sl false 1 (l.map cvT)] [.b true] [] := by
  refine mk_contract [] Try.func198 (c := Try.f198.body.get!) (by kernel_rfl) k198 r198 (of_decide_eq_true rfl) fun _ => ?_
  unfold c198; simp
  refine twp_for l.length (fun j s => s.t 0 = .sl false 1 (l.map cvT) ∧ s.t 1 = .sl false 1 (l.map cvT) ∧ s.t 5 = .i .i64 j ∧ s.H = lk [(1, [])]) [] (by simp) ?_ ?_
  · simp
  · rintro j s hj ⟨q0, q1, q5, qH⟩
    rw [nf_of qH]
    simp [q0, q1, q5]
    intro hlt
    have hw : IntKind.i64.wrap (j + 1) = j + 1 := wrap_id (by omega) (by omega)
    obtain ⟨x, hx⟩ := get_some hlt
    simp [hx, hw, q0, q1, q5]
    refine callW_ms [.ro, .ro] ?_
    simp
    refine callX_of (w110 x (hd x (List.mem_of_getElem? hx))) (by simp) ?_
    simp [hw, q0, q1, q5]
    exact hlt
theorem w162 (t : TableP) (h : okT t) : Contract Try.prog false 162 [.ro, .ro] [tableR t, tableR t] [.b true] [] := by
  refine mk_contract [] Try.func162 (c := Try.f162.body.get!) (by kernel_rfl) k162 r162 (of_decide_eq_true rfl) fun _ => ?_
  obtain ⟨h1, h2, h3, h4⟩ := h
  unfold c162; simp
  refine callW_ms [.ro, .ro] ?_
  simp
  refine callX_of (w31 t.1 t.1 (by omega) (by omega)) (by simp) ?_
  simp
  refine callW_ms [.ro, .ro] ?_
  simp
  refine callX_of (w54 t.2.1 t.2.1 (by omega) (by omega)) (by simp) ?_
  simp
  refine callW_ms [.ro, .ro] ?_
  simp
  refine callX_of (w198 t.2.2 (by omega) (fun v hv => by have := h4 v hv; omega)) (by simp) ?_
  simp
theorem w109 (l : List TableP) (hl : l.length ≤ 2^36) (hd : ∀ t ∈ l, okT t) : Contract Try.prog false 109 [.ro, .ro] [.sl false 3 (l.map tbT), .sl false 3 (l.map tbT)] [.b true] [] := by
  refine mk_contract [] Try.func109 (c := Try.f109.body.get!) (by kernel_rfl) k109 r109 (of_decide_eq_true rfl) fun _ => ?_
  unfold c109; simp
  refine twp_for l.length (fun j s => s.t 0 = .sl false 3 (l.map tbT) ∧ s.t 1 = .sl false 3 (l.map tbT) ∧ s.t 5 = .i .i64 j ∧ s.H = lk [(1, [])]) [] (by simp) ?_ ?_
  · simp
  · rintro j s hj ⟨q0, q1, q5, qH⟩
    rw [nf_of qH]
    simp [q0, q1, q5]
    intro hlt
    have hw : IntKind.i64.wrap (j + 1) = j + 1 := wrap_id (by omega) (by omega)
    obtain ⟨x, hx⟩ := get_some hlt
    simp [hx, hw, q0, q1, q5]
    refine callW_ms [.ro, .ro] ?_
    simp
    refine callX_of (w162 x (hd x (List.mem_of_getElem? hx))) (by simp) ?_
    simp [hw, q0, q1, q5]
    exact hlt
theorem w55 (w : WorldP) (h : okW w) : Contract Try.prog false 55 [.ro, .ro] [worldR w.1 w.2.1 w.2.2.1 w.2.2.2, worldR w.1 w.2.1 w.2.2.1 w.2.2.2] [.b true] [] := by
  refine mk_contract [] Try.func55 (c := Try.f55.body.get!) (by kernel_rfl) k55 r55 (of_decide_eq_true rfl) fun _ => ?_
  obtain ⟨h1, h2, ⟨h3, h4⟩, h5⟩ := h
  unfold c55; simp
  refine callW_ms [.ro, .ro] ?_
  simp [entsR]
  refine callX_of (w108 w.1 w.2.1 w.1 w.2.1 (by omega) (by omega) (by omega) (by omega)) (by simp) ?_
  simp
  refine callW_ms [.ro, .ro] ?_
  simp
  refine callX_of (w109 w.2.2.1 h3 h4) (by simp) ?_
  simp
  refine callW_ms [.ro, .ro] ?_
  simp
  refine callX_of (w110 w.2.2.2 (by omega)) (by simp) ?_
  simp
end Go.Proofs.YtmedelmfkciblaaT
