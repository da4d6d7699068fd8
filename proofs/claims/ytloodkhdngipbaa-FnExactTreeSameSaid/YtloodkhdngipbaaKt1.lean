/- Trees; TreeSame. -/
import Derived.Test.YtloodkhdngipbaaKa
namespace Go.Proofs.YtloodkhdngipbaaT
set_option linter.unusedVariables false
set_option linter.unusedSimpArgs false
open Go

/- laws.szNode -/
def c146 : TCode := (.seq (.ops [⟨(some 2), 4, .box 4 (.t 0), none, []⟩, ⟨(some 4), 6, .mv (.c (.i .i64 0)), none, []⟩])
  (.seq (.ops [⟨(some 5), 7, .mv (.t 1), none, []⟩, ⟨(some 6), 8, .faddr 1 1 (.t 2), none, []⟩, ⟨(some 7), 9, .load false 1 (.t 6), none, []⟩, ⟨(some 8), 10, .len true (.t 7), none, []⟩, ⟨(some 9), 11, .bin .sub (.t 5) (.t 8), none, []⟩, ⟨(some 1), 3, .mv (.t 9), none, []⟩])
  (.seq (.seq (.ops [⟨(some 10), 12, .mv (.t 1), none, []⟩, ⟨(some 11), 13, .bin .lss (.t 10) (.c (.i .i64 0)), none, []⟩])
  (.cond (.t 11)
  (.seq (.ops [⟨(some 4), 6, .mv (.c (.i .i64 (-1))), none, []⟩])
  .ret)
  .skip))
  (.seq (.ops [⟨(some 12), 14, .faddr 3 1 (.t 2), none, []⟩, ⟨(some 13), 15, .load false 1 (.t 12), none, []⟩, ⟨(some 14), 16, .mv (.t 1), none, []⟩, ⟨(some 15), 17, .call 107 [((.t 13), 0), ((.t 14), 0)], none, []⟩, ⟨(some 1), 3, .mv (.t 15), none, []⟩])
  (.seq (.seq (.ops [⟨(some 16), 18, .mv (.t 1), none, []⟩, ⟨(some 17), 19, .bin .lss (.t 16) (.c (.i .i64 0)), none, []⟩])
  (.cond (.t 17)
  (.seq (.ops [⟨(some 4), 6, .mv (.c (.i .i64 (-1))), none, []⟩])
  .ret)
  .skip))
  (.seq (.ops [⟨(some 18), 20, .mv (.t 1), none, []⟩, ⟨(some 4), 6, .mv (.t 18), none, []⟩])
  .ret))))))
theorem k146 : compCode Try.prog Try.f146.ntmps Try.f146.body.get! = some c146 := by kernel_rfl
theorem r146 : resTmps Try.prog Try.f146.results.toList = some [.tmp 4] := by kernel_rfl
/- laws.szNodeS -/
def c106 : TCode := (.seq (.ops [⟨(some 4), 6, .mv (.c (.i .i64 0)), none, []⟩])
  (.seq (.ops [⟨(some 6), 8, .mv (.t 1), none, []⟩, ⟨(some 7), 9, .mv (.t 0), none, []⟩, ⟨(some 8), 10, .len false (.t 7), none, []⟩, ⟨(some 9), 11, .bin .sub (.t 6) (.t 8), none, []⟩, ⟨(some 1), 3, .mv (.t 9), none, []⟩])
  (.seq (.seq (.ops [⟨(some 10), 12, .mv (.t 1), none, []⟩, ⟨(some 11), 13, .bin .lss (.t 10) (.c (.i .i64 0)), none, []⟩])
  (.cond (.t 11)
  (.seq (.ops [⟨(some 4), 6, .mv (.c (.i .i64 (-1))), none, []⟩])
  .ret)
  .skip))
  (.seq (.seq (.ops [⟨(some 5), 7, .mv (.c (.i .i64 0)), none, []⟩])
  (.block 0 (.loop (.seq (.seq (.ops [⟨(some 12), 14, .mv (.t 5), none, []⟩, ⟨(some 13), 15, .mv (.t 0), none, []⟩, ⟨(some 14), 16, .len false (.t 13), none, []⟩, ⟨(some 15), 17, .bin .lss (.t 12) (.t 14), none, []⟩])
  (.cond (.t 15)
  .skip
  (.exit 0)))
  (.seq (.block 1 (.seq (.ops [⟨(some 18), 20, .mv (.t 0), none, []⟩, ⟨(some 19), 21, .mv (.t 5), none, []⟩, ⟨(some 20), 22, .iaddr 4 (.t 18) (.t 19), none, []⟩, ⟨(some 21), 23, .load true 4 (.t 20), none, []⟩, ⟨(some 22), 24, .mv (.t 1), none, []⟩, ⟨(some 23), 25, .call 146 [((.t 21), 0), ((.t 22), 0)], none, []⟩, ⟨(some 1), 3, .mv (.t 23), none, []⟩])
  (.seq (.ops [⟨(some 24), 26, .mv (.t 1), none, []⟩, ⟨(some 25), 27, .bin .lss (.t 24) (.c (.i .i64 0)), none, []⟩])
  (.cond (.t 25)
  (.seq (.ops [⟨(some 4), 6, .mv (.c (.i .i64 (-1))), none, []⟩])
  .ret)
  .skip))))
  (.ops [⟨(some 16), 18, .mv (.t 5), none, []⟩, ⟨(some 17), 19, .bin .add (.t 16) (.c (.i .i64 1)), none, []⟩, ⟨(some 5), 7, .mv (.t 17), none, []⟩]))))))
  (.seq (.ops [⟨(some 26), 28, .mv (.t 1), none, []⟩, ⟨(some 4), 6, .mv (.t 26), none, []⟩])
  .ret)))))
theorem k106 : compCode Try.prog Try.f106.ntmps Try.f106.body.get! = some c106 := by kernel_rfl
theorem r106 : resTmps Try.prog Try.f106.results.toList = some [.tmp 4] := by kernel_rfl
/- laws.szTree -/
def c55 : TCode := (.seq (.ops [⟨(some 2), 4, .box 2 (.t 0), none, []⟩, ⟨(some 4), 6, .mv (.c (.i .i64 0)), none, []⟩])
  (.seq (.ops [⟨(some 5), 7, .faddr 0 1 (.t 2), none, []⟩, ⟨(some 6), 8, .load false 1 (.t 5), none, []⟩, ⟨(some 7), 9, .mv (.t 1), none, []⟩, ⟨(some 8), 10, .call 106 [((.t 6), 0), ((.t 7), 0)], none, []⟩, ⟨(some 1), 3, .mv (.t 8), none, []⟩])
  (.seq (.seq (.ops [⟨(some 9), 11, .mv (.t 1), none, []⟩, ⟨(some 10), 12, .bin .lss (.t 9) (.c (.i .i64 0)), none, []⟩])
  (.cond (.t 10)
  (.seq (.ops [⟨(some 4), 6, .mv (.c (.i .i64 (-1))), none, []⟩])
  .ret)
  .skip))
  (.seq (.ops [⟨(some 11), 13, .faddr 1 1 (.t 2), none, []⟩, ⟨(some 12), 14, .load false 1 (.t 11), none, []⟩, ⟨(some 13), 15, .mv (.t 1), none, []⟩, ⟨(some 14), 16, .call 107 [((.t 12), 0), ((.t 13), 0)], none, []⟩, ⟨(some 1), 3, .mv (.t 14), none, []⟩])
  (.seq (.seq (.ops [⟨(some 15), 17, .mv (.t 1), none, []⟩, ⟨(some 16), 18, .bin .lss (.t 15) (.c (.i .i64 0)), none, []⟩])
  (.cond (.t 16)
  (.seq (.ops [⟨(some 4), 6, .mv (.c (.i .i64 (-1))), none, []⟩])
  .ret)
  .skip))
  (.seq (.ops [⟨(some 17), 19, .mv (.t 1), none, []⟩, ⟨(some 4), 6, .mv (.t 17), none, []⟩])
  .ret))))))
theorem k55 : compCode Try.prog Try.f55.ntmps Try.f55.body.get! = some c55 := by kernel_rfl
theorem r55 : resTmps Try.prog Try.f55.results.toList = some [.tmp 4] := by kernel_rfl
/- laws.toNode -/
def c147 : TCode := (.seq (.ops [⟨(some 1), 3, .box 4 (.t 0), none, []⟩, ⟨(some 2), 4, .box 4 (.c (.ag [(.i .i64 0), (.s ⟨#[]⟩), (.i .i64 0), (.sl true 1 [])])), none, []⟩])
  (.seq (.ops [⟨(some 3), 5, .box 4 (.c (.ag [(.i .i64 0), (.s ⟨#[]⟩), (.i .i64 0), (.sl true 1 [])])), none, []⟩])
  (.seq (.ops [⟨(some 4), 6, .faddr 0 1 (.t 1), none, []⟩, ⟨(some 5), 7, .load false 1 (.t 4), none, []⟩, ⟨(some 6), 8, .faddr 0 1 (.t 3), none, []⟩, ⟨none, 1002003, .store 1 (.t 6) (.t 5), none, []⟩])
  (.seq (.ops [⟨(some 7), 9, .faddr 1 1 (.t 1), none, []⟩, ⟨(some 8), 10, .load false 1 (.t 7), none, []⟩, ⟨(some 9), 11, .faddr 1 1 (.t 3), none, []⟩, ⟨none, 1003003, .store 1 (.t 9) (.t 8), none, []⟩])
  (.seq (.ops [⟨(some 10), 12, .faddr 2 1 (.t 1), none, []⟩, ⟨(some 11), 13, .load false 1 (.t 10), none, []⟩, ⟨(some 12), 14, .faddr 2 1 (.t 3), none, []⟩, ⟨none, 1004003, .store 1 (.t 12) (.t 11), none, []⟩])
  (.seq (.ops [⟨(some 13), 15, .faddr 3 1 (.t 1), none, []⟩, ⟨(some 14), 16, .load false 1 (.t 13), none, []⟩, ⟨(some 15), 17, .call 110 [((.t 14), 0)], none, []⟩, ⟨(some 16), 18, .faddr 3 1 (.t 3), none, []⟩, ⟨none, 1005004, .store 1 (.t 16) (.t 15), none, []⟩])
  (.seq (.ops [⟨(some 17), 19, .load true 4 (.t 3), none, []⟩, ⟨none, 1006001, .store 4 (.t 2) (.t 17), none, []⟩])
  .ret)))))))
theorem k147 : compCode Try.prog Try.f147.ntmps Try.f147.body.get! = some c147 := by kernel_rfl
theorem r147 : resTmps Try.prog Try.f147.results.toList = some [.cell 2 true 4] := by kernel_rfl
/- laws.toNodeS -/
def c109 : TCode := (.seq (.ops [⟨(some 2), 4, .mv (.c (.sl true 4 [])), none, []⟩])
  (.seq (.ops [⟨(some 5), 7, .mv (.t 0), none, []⟩, ⟨(some 6), 8, .len false (.t 5), none, []⟩, ⟨(some 7), 9, .mkslice 4 56 [(.i .i64 0), (.s ⟨#[]⟩), (.i .i64 0), (.sl true 1 [])] (.t 6) (.t 6), none, []⟩, ⟨(some 3), 5, .mv (.t 7), none, []⟩])
  (.seq (.seq (.ops [⟨(some 4), 6, .mv (.c (.i .i64 0)), none, []⟩])
  (.block 0 (.loop (.seq (.seq (.ops [⟨(some 8), 10, .mv (.t 4), none, []⟩, ⟨(some 9), 11, .mv (.t 0), none, []⟩, ⟨(some 10), 12, .len false (.t 9), none, []⟩, ⟨(some 11), 13, .bin .lss (.t 8) (.t 10), none, []⟩])
  (.cond (.t 11)
  .skip
  (.exit 0)))
  (.seq (.block 1 (.ops [⟨(some 14), 16, .mv (.t 3), none, []⟩, ⟨(some 15), 17, .mv (.t 4), none, []⟩, ⟨(some 16), 18, .mv (.t 0), none, []⟩, ⟨(some 17), 19, .mv (.t 4), none, []⟩, ⟨(some 18), 20, .iaddr 4 (.t 16) (.t 17), none, []⟩, ⟨(some 19), 21, .load true 4 (.t 18), none, []⟩, ⟨(some 20), 22, .call 147 [((.t 19), 0)], none, []⟩, ⟨(some 21), 23, .iaddr 4 (.t 14) (.t 15), none, []⟩, ⟨none, 1005008, .store 4 (.t 21) (.t 20), none, []⟩]))
  (.ops [⟨(some 12), 14, .mv (.t 4), none, []⟩, ⟨(some 13), 15, .bin .add (.t 12) (.c (.i .i64 1)), none, []⟩, ⟨(some 4), 6, .mv (.t 13), none, []⟩]))))))
  (.seq (.ops [⟨(some 22), 24, .mv (.t 3), none, []⟩, ⟨(some 2), 4, .mv (.t 22), none, []⟩])
  .ret))))
theorem k109 : compCode Try.prog Try.f109.ntmps Try.f109.body.get! = some c109 := by kernel_rfl
theorem r109 : resTmps Try.prog Try.f109.results.toList = some [.tmp 2] := by kernel_rfl
/- laws.toTree -/
def c57 : TCode := (.seq (.ops [⟨(some 1), 3, .box 2 (.t 0), none, []⟩, ⟨(some 2), 4, .box 2 (.c (.ag [(.sl true 4 []), (.sl true 1 [])])), none, []⟩])
  (.seq (.ops [⟨(some 3), 5, .box 2 (.c (.ag [(.sl true 4 []), (.sl true 1 [])])), none, []⟩])
  (.seq (.ops [⟨(some 4), 6, .faddr 0 1 (.t 1), none, []⟩, ⟨(some 5), 7, .load false 1 (.t 4), none, []⟩, ⟨(some 6), 8, .call 109 [((.t 5), 0)], none, []⟩, ⟨(some 7), 9, .faddr 0 1 (.t 3), none, []⟩, ⟨none, 1002004, .store 1 (.t 7) (.t 6), none, []⟩])
  (.seq (.ops [⟨(some 8), 10, .faddr 1 1 (.t 1), none, []⟩, ⟨(some 9), 11, .load false 1 (.t 8), none, []⟩, ⟨(some 10), 12, .call 110 [((.t 9), 0)], none, []⟩, ⟨(some 11), 13, .faddr 1 1 (.t 3), none, []⟩, ⟨none, 1003004, .store 1 (.t 11) (.t 10), none, []⟩])
  (.seq (.ops [⟨(some 12), 14, .load true 2 (.t 3), none, []⟩, ⟨none, 1004001, .store 2 (.t 2) (.t 12), none, []⟩])
  .ret)))))
theorem k57 : compCode Try.prog Try.f57.ntmps Try.f57.body.get! = some c57 := by kernel_rfl
theorem r57 : resTmps Try.prog Try.f57.results.toList = some [.cell 2 true 2] := by kernel_rfl
/- laws.eqNode -/
def c148 : TCode := (.seq (.ops [⟨(some 2), 4, .box 4 (.t 0), none, []⟩, ⟨(some 3), 5, .box 4 (.t 1), none, []⟩, ⟨(some 4), 6, .mv (.c (.b false)), none, []⟩])
  (.seq (.seq (.ops [⟨(some 5), 7, .faddr 0 1 (.t 2), none, []⟩, ⟨(some 6), 8, .load false 1 (.t 5), none, []⟩, ⟨(some 7), 9, .faddr 0 1 (.t 3), none, []⟩, ⟨(some 8), 10, .load false 1 (.t 7), none, []⟩, ⟨(some 9), 11, .bin .neq (.t 6) (.t 8), none, []⟩])
  (.cond (.t 9)
  (.seq (.ops [⟨(some 4), 6, .mv (.c (.b false)), none, []⟩])
  .ret)
  .skip))
  (.seq (.seq (.ops [⟨(some 10), 12, .faddr 1 1 (.t 2), none, []⟩, ⟨(some 11), 13, .load false 1 (.t 10), none, []⟩, ⟨(some 12), 14, .faddr 1 1 (.t 3), none, []⟩, ⟨(some 13), 15, .load false 1 (.t 12), none, []⟩, ⟨(some 14), 16, .bin .neq (.t 11) (.t 13), none, []⟩])
  (.cond (.t 14)
  (.seq (.ops [⟨(some 4), 6, .mv (.c (.b false)), none, []⟩])
  .ret)
  .skip))
  (.seq (.seq (.ops [⟨(some 15), 17, .faddr 2 1 (.t 2), none, []⟩, ⟨(some 16), 18, .load false 1 (.t 15), none, []⟩, ⟨(some 17), 19, .faddr 2 1 (.t 3), none, []⟩, ⟨(some 18), 20, .load false 1 (.t 17), none, []⟩, ⟨(some 19), 21, .bin .neq (.t 16) (.t 18), none, []⟩])
  (.cond (.t 19)
  (.seq (.ops [⟨(some 4), 6, .mv (.c (.b false)), none, []⟩])
  .ret)
  .skip))
  (.seq (.seq (.ops [⟨(some 20), 22, .faddr 3 1 (.t 2), none, []⟩, ⟨(some 21), 23, .load false 1 (.t 20), none, []⟩, ⟨(some 22), 24, .faddr 3 1 (.t 3), none, []⟩, ⟨(some 23), 25, .load false 1 (.t 22), none, []⟩, ⟨(some 24), 26, .call 115 [((.t 21), 0), ((.t 23), 0)], none, []⟩, ⟨(some 25), 27, .un .not (.t 24), none, []⟩])
  (.cond (.t 25)
  (.seq (.ops [⟨(some 4), 6, .mv (.c (.b false)), none, []⟩])
  .ret)
  .skip))
  (.seq (.ops [⟨(some 4), 6, .mv (.c (.b true)), none, []⟩])
  .ret))))))
theorem k148 : compCode Try.prog Try.f148.ntmps Try.f148.body.get! = some c148 := by kernel_rfl
theorem r148 : resTmps Try.prog Try.f148.results.toList = some [.tmp 4] := by kernel_rfl
/- laws.eqNodeS -/
def c114 : TCode := (.seq (.ops [⟨(some 4), 6, .mv (.c (.b false)), none, []⟩])
  (.seq (.seq (.ops [⟨(some 6), 8, .mv (.t 0), none, []⟩, ⟨(some 7), 9, .len false (.t 6), none, []⟩, ⟨(some 8), 10, .mv (.t 1), none, []⟩, ⟨(some 9), 11, .len false (.t 8), none, []⟩, ⟨(some 10), 12, .bin .neq (.t 7) (.t 9), none, []⟩])
  (.cond (.t 10)
  (.seq (.ops [⟨(some 4), 6, .mv (.c (.b false)), none, []⟩])
  .ret)
  .skip))
  (.seq (.seq (.ops [⟨(some 5), 7, .mv (.c (.i .i64 0)), none, []⟩])
  (.block 0 (.loop (.seq (.seq (.ops [⟨(some 11), 13, .mv (.t 5), none, []⟩, ⟨(some 12), 14, .mv (.t 0), none, []⟩, ⟨(some 13), 15, .len false (.t 12), none, []⟩, ⟨(some 14), 16, .bin .lss (.t 11) (.t 13), none, []⟩])
  (.cond (.t 14)
  .skip
  (.exit 0)))
  (.seq (.block 1 (.seq (.draw [⟨(some 17), 19, .mv (.t 0), none, []⟩, ⟨(some 18), 20, .mv (.t 5), none, []⟩, ⟨(some 19), 21, .iaddr 4 (.t 17) (.t 18), none, []⟩, ⟨(some 20), 22, .load true 4 (.t 19), none, []⟩, ⟨(some 21), 23, .mv (.t 1), none, []⟩, ⟨(some 22), 24, .mv (.t 5), none, []⟩, ⟨(some 23), 25, .iaddr 4 (.t 21) (.t 22), none, []⟩, ⟨(some 24), 26, .load true 4 (.t 23), none, []⟩, ⟨(some 25), 27, .call 148 [((.t 20), 0), ((.t 24), 0)], none, []⟩, ⟨(some 26), 28, .un .not (.t 25), none, []⟩])
  (.cond (.t 26)
  (.seq (.ops [⟨(some 4), 6, .mv (.c (.b false)), none, []⟩])
  .ret)
  .skip)))
  (.ops [⟨(some 15), 17, .mv (.t 5), none, []⟩, ⟨(some 16), 18, .bin .add (.t 15) (.c (.i .i64 1)), none, []⟩, ⟨(some 5), 7, .mv (.t 16), none, []⟩]))))))
  (.seq (.ops [⟨(some 4), 6, .mv (.c (.b true)), none, []⟩])
  .ret))))
theorem k114 : compCode Try.prog Try.f114.ntmps Try.f114.body.get! = some c114 := by kernel_rfl
theorem r114 : resTmps Try.prog Try.f114.results.toList = some [.tmp 4] := by kernel_rfl
/- laws.eqTree -/
def c59 : TCode := (.seq (.ops [⟨(some 2), 4, .box 2 (.t 0), none, []⟩, ⟨(some 3), 5, .box 2 (.t 1), none, []⟩, ⟨(some 4), 6, .mv (.c (.b false)), none, []⟩])
  (.seq (.seq (.ops [⟨(some 5), 7, .faddr 0 1 (.t 2), none, []⟩, ⟨(some 6), 8, .load false 1 (.t 5), none, []⟩, ⟨(some 7), 9, .faddr 0 1 (.t 3), none, []⟩, ⟨(some 8), 10, .load false 1 (.t 7), none, []⟩, ⟨(some 9), 11, .call 114 [((.t 6), 0), ((.t 8), 0)], none, []⟩, ⟨(some 10), 12, .un .not (.t 9), none, []⟩])
  (.cond (.t 10)
  (.seq (.ops [⟨(some 4), 6, .mv (.c (.b false)), none, []⟩])
  .ret)
  .skip))
  (.seq (.seq (.ops [⟨(some 11), 13, .faddr 1 1 (.t 2), none, []⟩, ⟨(some 12), 14, .load false 1 (.t 11), none, []⟩, ⟨(some 13), 15, .faddr 1 1 (.t 3), none, []⟩, ⟨(some 14), 16, .load false 1 (.t 13), none, []⟩, ⟨(some 15), 17, .call 115 [((.t 12), 0), ((.t 14), 0)], none, []⟩, ⟨(some 16), 18, .un .not (.t 15), none, []⟩])
  (.cond (.t 16)
  (.seq (.ops [⟨(some 4), 6, .mv (.c (.b false)), none, []⟩])
  .ret)
  .skip))
  (.seq (.ops [⟨(some 4), 6, .mv (.c (.b true)), none, []⟩])
  .ret))))
theorem k59 : compCode Try.prog Try.f59.ntmps Try.f59.body.get! = some c59 := by kernel_rfl
theorem r59 : resTmps Try.prog Try.f59.results.toList = some [.tmp 4] := by kernel_rfl
/- spec.l4Equal -/
def c108 : TCode := (.seq (.ops [⟨(some 4), 6, .mv (.c (.b false)), none, []⟩])
  (.seq (.seq (.ops [⟨(some 6), 8, .mv (.t 0), none, []⟩, ⟨(some 7), 9, .len false (.t 6), none, []⟩, ⟨(some 8), 10, .mv (.t 1), none, []⟩, ⟨(some 9), 11, .len false (.t 8), none, []⟩, ⟨(some 10), 12, .bin .neq (.t 7) (.t 9), none, []⟩])
  (.cond (.t 10)
  (.seq (.ops [⟨(some 4), 6, .mv (.c (.b false)), none, []⟩])
  .ret)
  .skip))
  (.seq (.seq (.ops [⟨(some 5), 7, .mv (.c (.i .i64 0)), none, []⟩])
  (.block 0 (.loop (.seq (.seq (.ops [⟨(some 11), 13, .mv (.t 5), none, []⟩, ⟨(some 12), 14, .mv (.t 0), none, []⟩, ⟨(some 13), 15, .len false (.t 12), none, []⟩, ⟨(some 14), 16, .bin .lss (.t 11) (.t 13), none, []⟩])
  (.cond (.t 14)
  .skip
  (.exit 0)))
  (.seq (.block 1 (.seq (.draw [⟨(some 17), 19, .mv (.t 0), none, []⟩, ⟨(some 18), 20, .mv (.t 5), none, []⟩, ⟨(some 19), 21, .iaddr 1 (.t 17) (.t 18), none, []⟩, ⟨(some 20), 22, .load false 1 (.t 19), none, []⟩, ⟨(some 21), 23, .mv (.t 1), none, []⟩, ⟨(some 22), 24, .mv (.t 5), none, []⟩, ⟨(some 23), 25, .iaddr 1 (.t 21) (.t 22), none, []⟩, ⟨(some 24), 26, .load false 1 (.t 23), none, []⟩, ⟨(some 25), 27, .bin .neq (.t 20) (.t 24), none, []⟩])
  (.cond (.t 25)
  (.seq (.ops [⟨(some 4), 6, .mv (.c (.b false)), none, []⟩])
  .ret)
  .skip)))
  (.ops [⟨(some 15), 17, .mv (.t 5), none, []⟩, ⟨(some 16), 18, .bin .add (.t 15) (.c (.i .i64 1)), none, []⟩, ⟨(some 5), 7, .mv (.t 16), none, []⟩]))))))
  (.seq (.ops [⟨(some 4), 6, .mv (.c (.b true)), none, []⟩])
  .ret))))
theorem k108 : compCode Try.prog Try.f108.ntmps Try.f108.body.get! = some c108 := by kernel_rfl
theorem r108 : resTmps Try.prog Try.f108.results.toList = some [.tmp 4] := by kernel_rfl
/- slices.Equal[[]int,int] -/
def c111 : TCode := (.seq (.ops [⟨(some 4), 6, .mv (.c (.b false)), none, []⟩])
  (.seq (.seq (.ops [⟨(some 6), 8, .mv (.t 0), none, []⟩, ⟨(some 7), 9, .len false (.t 6), none, []⟩, ⟨(some 8), 10, .mv (.t 1), none, []⟩, ⟨(some 9), 11, .len false (.t 8), none, []⟩, ⟨(some 10), 12, .bin .neq (.t 7) (.t 9), none, []⟩])
  (.cond (.t 10)
  (.seq (.ops [⟨(some 4), 6, .mv (.c (.b false)), none, []⟩])
  .ret)
  .skip))
  (.seq (.seq (.ops [⟨(some 11), 13, .mv (.t 0), none, []⟩, ⟨(some 12), 14, .len false (.t 11), none, []⟩, ⟨(some 13), 15, .mv (.c (.i .i64 0)), none, []⟩])
  (.block 0 (.loop (.seq (.ops [⟨(some 14), 16, .bin .lss (.t 13) (.t 12), none, []⟩])
  (.seq (.cond (.t 14)
  .skip
  (.exit 0))
  (.seq (.block 1 (.seq (.ops [⟨(some 15), 17, .mv (.t 13), none, []⟩, ⟨(some 5), 7, .mv (.t 15), none, []⟩])
  (.seq (.draw [⟨(some 16), 18, .mv (.t 0), none, []⟩, ⟨(some 17), 19, .mv (.t 5), none, []⟩, ⟨(some 18), 20, .iaddr 1 (.t 16) (.t 17), none, []⟩, ⟨(some 19), 21, .load false 1 (.t 18), none, []⟩, ⟨(some 20), 22, .mv (.t 1), none, []⟩, ⟨(some 21), 23, .mv (.t 5), none, []⟩, ⟨(some 22), 24, .iaddr 1 (.t 20) (.t 21), none, []⟩, ⟨(some 23), 25, .load false 1 (.t 22), none, []⟩, ⟨(some 24), 26, .bin .neq (.t 19) (.t 23), none, []⟩])
  (.cond (.t 24)
  (.seq (.ops [⟨(some 4), 6, .mv (.c (.b false)), none, []⟩])
  .ret)
  .skip))))
  (.ops [⟨(some 25), 27, .bin .add (.t 13) (.c (.i .i64 1)), none, []⟩, ⟨(some 13), 15, .mv (.t 25), none, []⟩])))))))
  (.seq (.ops [⟨(some 4), 6, .mv (.c (.b true)), none, []⟩])
  .ret))))
theorem k111 : compCode Try.prog Try.f111.ntmps Try.f111.body.get! = some c111 := by kernel_rfl
theorem r111 : resTmps Try.prog Try.f111.results.toList = some [.tmp 4] := by kernel_rfl
/- impl.TreeSame$1 -/
def c113 : TCode := (.seq (.ops [⟨(some 2), 4, .box 4 (.t 0), none, []⟩, ⟨(some 3), 5, .box 4 (.t 1), none, []⟩, ⟨(some 4), 6, .mv (.c (.b false)), none, []⟩])
  (.seq (.ops [⟨(some 5), 7, .faddr 0 1 (.t 2), none, []⟩, ⟨(some 6), 8, .load false 1 (.t 5), none, []⟩, ⟨(some 7), 9, .faddr 0 1 (.t 3), none, []⟩, ⟨(some 8), 10, .load false 1 (.t 7), none, []⟩, ⟨(some 9), 11, .bin .eql (.t 6) (.t 8), none, []⟩, ⟨(some 10), 12, .mv (.t 9), none, []⟩, ⟨(some 11), 13, .faddr 1 1 (.t 2), (some (10, true)), []⟩, ⟨(some 12), 14, .load false 1 (.t 11), (some (10, true)), []⟩, ⟨(some 13), 15, .faddr 1 1 (.t 3), (some (10, true)), []⟩, ⟨(some 14), 16, .load false 1 (.t 13), (some (10, true)), []⟩, ⟨(some 15), 17, .bin .eql (.t 12) (.t 14), (some (10, true)), []⟩, ⟨(some 16), 18, .pick (.t 10) (.t 15) (.c (.b false)), none, []⟩, ⟨(some 17), 19, .mv (.t 16), none, []⟩, ⟨(some 18), 20, .faddr 2 1 (.t 2), (some (17, true)), []⟩, ⟨(some 19), 21, .load false 1 (.t 18), (some (17, true)), []⟩, ⟨(some 20), 22, .faddr 2 1 (.t 3), (some (17, true)), []⟩, ⟨(some 21), 23, .load false 1 (.t 20), (some (17, true)), []⟩, ⟨(some 22), 24, .bin .eql (.t 19) (.t 21), (some (17, true)), []⟩, ⟨(some 23), 25, .pick (.t 17) (.t 22) (.c (.b false)), none, []⟩, ⟨(some 24), 26, .mv (.t 23), none, []⟩, ⟨(some 25), 27, .faddr 3 1 (.t 2), (some (24, true)), []⟩, ⟨(some 26), 28, .load false 1 (.t 25), (some (24, true)), []⟩, ⟨(some 27), 29, .faddr 3 1 (.t 3), (some (24, true)), []⟩, ⟨(some 28), 30, .load false 1 (.t 27), (some (24, true)), []⟩, ⟨(some 29), 31, .call 111 [((.t 26), 0), ((.t 28), 0)], (some (24, true)), []⟩, ⟨(some 30), 32, .pick (.t 24) (.t 29) (.c (.b false)), none, []⟩, ⟨(some 4), 6, .mv (.t 30), none, []⟩])
  .ret))
theorem k113 : compCode Try.prog Try.f113.ntmps Try.f113.body.get! = some c113 := by kernel_rfl
theorem r113 : resTmps Try.prog Try.f113.results.toList = some [.tmp 4] := by kernel_rfl
/- slices.EqualFunc[[]impl.Node,[]impl.Node,impl.Node,impl.Node] -/
def c112 : TCode := (.seq (.ops [⟨(some 6), 8, .mv (.c (.b false)), none, []⟩])
  (.seq (.seq (.ops [⟨(some 10), 12, .mv (.t 0), none, []⟩, ⟨(some 11), 13, .len false (.t 10), none, []⟩, ⟨(some 12), 14, .mv (.t 1), none, []⟩, ⟨(some 13), 15, .len false (.t 12), none, []⟩, ⟨(some 14), 16, .bin .neq (.t 11) (.t 13), none, []⟩])
  (.cond (.t 14)
  (.seq (.ops [⟨(some 6), 8, .mv (.c (.b false)), none, []⟩])
  .ret)
  .skip))
  (.seq (.seq (.ops [⟨(some 15), 17, .mv (.t 0), none, []⟩, ⟨(some 16), 18, .len false (.t 15), none, []⟩, ⟨(some 17), 19, .mv (.c (.i .i64 0)), none, []⟩])
  (.block 0 (.loop (.seq (.ops [⟨(some 18), 20, .bin .lss (.t 17) (.t 16), none, []⟩])
  (.seq (.cond (.t 18)
  .skip
  (.exit 0))
  (.seq (.block 1 (.seq (.ops [⟨(some 19), 21, .mv (.t 17), none, []⟩, ⟨(some 20), 22, .iaddr 4 (.t 15) (.t 17), none, []⟩, ⟨(some 21), 23, .load true 4 (.t 20), none, []⟩, ⟨(some 8), 10, .box 4 (.c (.ag [(.i .i64 0), (.s ⟨#[]⟩), (.i .i64 0), (.sl true 1 [])])), none, []⟩, ⟨(some 7), 9, .mv (.t 19), none, []⟩, ⟨none, 1005005, .store 4 (.t 8) (.t 21), none, []⟩])
  (.seq (.ops [⟨(some 22), 24, .mv (.t 1), none, []⟩, ⟨(some 23), 25, .mv (.t 7), none, []⟩, ⟨(some 24), 26, .iaddr 4 (.t 22) (.t 23), none, []⟩, ⟨(some 25), 27, .load true 4 (.t 24), none, []⟩, ⟨(some 9), 11, .box 4 (.c (.ag [(.i .i64 0), (.s ⟨#[]⟩), (.i .i64 0), (.sl true 1 [])])), none, []⟩, ⟨none, 1006005, .store 4 (.t 9) (.t 25), none, []⟩])
  (.seq (.ops [⟨(some 26), 28, .mv (.t 2), none, []⟩, ⟨(some 27), 29, .load true 4 (.t 8), none, []⟩, ⟨(some 28), 30, .load true 4 (.t 9), none, []⟩, ⟨(some 29), 31, .callv (.t 26) [((.t 27), 0), ((.t 28), 0)], none, []⟩, ⟨(some 30), 32, .un .not (.t 29), none, []⟩])
  (.cond (.t 30)
  (.seq (.ops [⟨(some 6), 8, .mv (.c (.b false)), none, []⟩])
  .ret)
  .skip)))))
  (.ops [⟨(some 31), 33, .bin .add (.t 17) (.c (.i .i64 1)), none, []⟩, ⟨(some 17), 19, .mv (.t 31), none, []⟩])))))))
  (.seq (.ops [⟨(some 6), 8, .mv (.c (.b true)), none, []⟩])
  .ret))))
theorem k112 : compCode Try.prog Try.f112.ntmps Try.f112.body.get! = some c112 := by kernel_rfl
theorem r112 : resTmps Try.prog Try.f112.results.toList = some [.tmp 6] := by kernel_rfl
/- spec.TreeSame -/
def c56 : TCode := (.seq (.ops [⟨(some 2), 4, .box 2 (.t 0), none, []⟩, ⟨(some 3), 5, .box 2 (.t 1), none, []⟩, ⟨(some 4), 6, .mv (.c (.b false)), none, []⟩])
  (.seq (.seq (.ops [⟨(some 8), 10, .faddr 0 1 (.t 2), none, []⟩, ⟨(some 9), 11, .load false 1 (.t 8), none, []⟩, ⟨(some 10), 12, .len false (.t 9), none, []⟩, ⟨(some 11), 13, .faddr 0 1 (.t 3), none, []⟩, ⟨(some 12), 14, .load false 1 (.t 11), none, []⟩, ⟨(some 13), 15, .len false (.t 12), none, []⟩, ⟨(some 14), 16, .bin .neq (.t 10) (.t 13), none, []⟩, ⟨(some 15), 17, .mv (.t 14), none, []⟩, ⟨(some 16), 18, .faddr 1 1 (.t 2), (some (15, false)), []⟩, ⟨(some 17), 19, .load false 1 (.t 16), (some (15, false)), []⟩, ⟨(some 18), 20, .faddr 1 1 (.t 3), (some (15, false)), []⟩, ⟨(some 19), 21, .load false 1 (.t 18), (some (15, false)), []⟩, ⟨(some 20), 22, .call 108 [((.t 17), 0), ((.t 19), 0)], (some (15, false)), []⟩, ⟨(some 21), 23, .un .not (.t 20), (some (15, false)), []⟩, ⟨(some 22), 24, .pick (.t 15) (.c (.b true)) (.t 21), none, []⟩])
  (.cond (.t 22)
  (.seq (.ops [⟨(some 4), 6, .mv (.c (.b false)), none, []⟩])
  .ret)
  .skip))
  (.seq (.seq (.ops [⟨(some 5), 7, .mv (.c (.i .i64 0)), none, []⟩])
  (.block 0 (.loop (.seq (.seq (.ops [⟨(some 23), 25, .mv (.t 5), none, []⟩, ⟨(some 24), 26, .faddr 0 1 (.t 2), none, []⟩, ⟨(some 25), 27, .load false 1 (.t 24), none, []⟩, ⟨(some 26), 28, .len false (.t 25), none, []⟩, ⟨(some 27), 29, .bin .lss (.t 23) (.t 26), none, []⟩])
  (.cond (.t 27)
  .skip
  (.exit 0)))
  (.seq (.block 1 (.seq (.draw [⟨(some 30), 32, .faddr 0 1 (.t 2), none, []⟩, ⟨(some 31), 33, .load false 1 (.t 30), none, []⟩, ⟨(some 32), 34, .mv (.t 5), none, []⟩, ⟨(some 33), 35, .iaddr 4 (.t 31) (.t 32), none, []⟩, ⟨(some 34), 36, .load true 4 (.t 33), none, []⟩, ⟨(some 35), 37, .faddr 0 1 (.t 3), none, []⟩, ⟨(some 36), 38, .load false 1 (.t 35), none, []⟩, ⟨(some 37), 39, .mv (.t 5), none, []⟩, ⟨(some 38), 40, .iaddr 4 (.t 36) (.t 37), none, []⟩, ⟨(some 39), 41, .load true 4 (.t 38), none, []⟩, ⟨(some 6), 8, .box 4 (.c (.ag [(.i .i64 0), (.s ⟨#[]⟩), (.i .i64 0), (.sl true 1 [])])), none, [0, 1, 2, 3, 4, 5, 6, 7, 8, 9]⟩, ⟨(some 7), 9, .box 4 (.c (.ag [(.i .i64 0), (.s ⟨#[]⟩), (.i .i64 0), (.sl true 1 [])])), none, [0, 1, 2, 3, 4, 5, 6, 7, 8, 9, 10]⟩, ⟨none, 1006012, .store 4 (.t 6) (.t 34), none, [1000000, 5, 6, 7, 8, 9]⟩, ⟨none, 1006013, .store 4 (.t 7) (.t 39), none, []⟩])
  (.seq (.ops [⟨(some 40), 42, .faddr 0 1 (.t 6), none, []⟩, ⟨(some 41), 43, .load false 1 (.t 40), none, []⟩, ⟨(some 42), 44, .faddr 0 1 (.t 7), none, []⟩, ⟨(some 43), 45, .load false 1 (.t 42), none, []⟩, ⟨(some 44), 46, .bin .neq (.t 41) (.t 43), none, []⟩, ⟨(some 45), 47, .mv (.t 44), none, []⟩, ⟨(some 46), 48, .faddr 1 1 (.t 6), (some (45, false)), []⟩, ⟨(some 47), 49, .load false 1 (.t 46), (some (45, false)), []⟩, ⟨(some 48), 50, .faddr 1 1 (.t 7), (some (45, false)), []⟩, ⟨(some 49), 51, .load false 1 (.t 48), (some (45, false)), []⟩, ⟨(some 50), 52, .bin .neq (.t 47) (.t 49), (some (45, false)), []⟩, ⟨(some 51), 53, .pick (.t 45) (.c (.b true)) (.t 50), none, []⟩, ⟨(some 52), 54, .mv (.t 51), none, []⟩, ⟨(some 53), 55, .faddr 2 1 (.t 6), (some (52, false)), []⟩, ⟨(some 54), 56, .load false 1 (.t 53), (some (52, false)), []⟩, ⟨(some 55), 57, .faddr 2 1 (.t 7), (some (52, false)), []⟩, ⟨(some 56), 58, .load false 1 (.t 55), (some (52, false)), []⟩, ⟨(some 57), 59, .bin .neq (.t 54) (.t 56), (some (52, false)), []⟩, ⟨(some 58), 60, .pick (.t 52) (.c (.b true)) (.t 57), none, []⟩, ⟨(some 59), 61, .mv (.t 58), none, []⟩, ⟨(some 60), 62, .faddr 3 1 (.t 6), (some (59, false)), []⟩, ⟨(some 61), 63, .load false 1 (.t 60), (some (59, false)), []⟩, ⟨(some 62), 64, .faddr 3 1 (.t 7), (some (59, false)), []⟩, ⟨(some 63), 65, .load false 1 (.t 62), (some (59, false)), []⟩, ⟨(some 64), 66, .call 108 [((.t 61), 0), ((.t 63), 0)], (some (59, false)), []⟩, ⟨(some 65), 67, .un .not (.t 64), (some (59, false)), []⟩, ⟨(some 66), 68, .pick (.t 59) (.c (.b true)) (.t 65), none, []⟩])
  (.cond (.t 66)
  (.seq (.ops [⟨(some 4), 6, .mv (.c (.b false)), none, []⟩])
  .ret)
  .skip))))
  (.ops [⟨(some 28), 30, .mv (.t 5), none, []⟩, ⟨(some 29), 31, .bin .add (.t 28) (.c (.i .i64 1)), none, []⟩, ⟨(some 5), 7, .mv (.t 29), none, []⟩]))))))
  (.seq (.ops [⟨(some 4), 6, .mv (.c (.b true)), none, []⟩])
  .ret))))
theorem k56 : compCode Try.prog Try.f56.ntmps Try.f56.body.get! = some c56 := by kernel_rfl
theorem r56 : resTmps Try.prog Try.f56.results.toList = some [.tmp 4] := by kernel_rfl
/- impl.TreeSame -/
def c58 : TCode := (.seq (.ops [⟨(some 2), 4, .box 2 (.t 0), none, []⟩, ⟨(some 3), 5, .box 2 (.t 1), none, []⟩, ⟨(some 4), 6, .mv (.c (.b false)), none, []⟩])
  (.seq (.ops [⟨(some 5), 7, .faddr 1 1 (.t 2), none, []⟩, ⟨(some 6), 8, .load false 1 (.t 5), none, []⟩, ⟨(some 7), 9, .faddr 1 1 (.t 3), none, []⟩, ⟨(some 8), 10, .load false 1 (.t 7), none, []⟩, ⟨(some 9), 11, .call 111 [((.t 6), 0), ((.t 8), 0)], none, []⟩, ⟨(some 10), 12, .mv (.t 9), none, []⟩, ⟨(some 11), 13, .faddr 0 1 (.t 2), (some (10, true)), []⟩, ⟨(some 12), 14, .load false 1 (.t 11), (some (10, true)), []⟩, ⟨(some 13), 15, .faddr 0 1 (.t 3), (some (10, true)), []⟩, ⟨(some 14), 16, .load false 1 (.t 13), (some (10, true)), []⟩, ⟨(some 15), 17, .call 112 [((.t 12), 0), ((.t 14), 0), ((.c (.fn 113 [])), 0)], (some (10, true)), []⟩, ⟨(some 16), 18, .pick (.t 10) (.t 15) (.c (.b false)), none, []⟩, ⟨(some 4), 6, .mv (.t 16), none, []⟩])
  .ret))
theorem k58 : compCode Try.prog Try.f58.ntmps Try.f58.body.get! = some c58 := by kernel_rfl
theorem r58 : resTmps Try.prog Try.f58.results.toList = some [.tmp 4] := by kernel_rfl
/- laws.FnExactTreeSame -/
def c12 : TCode := (.seq (.ops [⟨(some 2), 4, .box 2 (.t 0), none, []⟩, ⟨(some 3), 5, .box 2 (.t 1), none, []⟩, ⟨(some 4), 6, .mv (.c (.b false)), none, []⟩])
  (.seq (.ops [⟨(some 5), 7, .mv (.c (.i .i64 1048576)), none, []⟩])
  (.seq (.ops [⟨(some 10), 12, .load true 2 (.t 2), none, []⟩, ⟨(some 11), 13, .mv (.t 5), none, []⟩, ⟨(some 12), 14, .call 55 [((.t 10), 0), ((.t 11), 0)], none, []⟩, ⟨(some 5), 7, .mv (.t 12), none, []⟩])
  (.seq (.seq (.ops [⟨(some 13), 15, .mv (.t 5), none, []⟩, ⟨(some 14), 16, .bin .lss (.t 13) (.c (.i .i64 0)), none, []⟩])
  (.cond (.t 14)
  (.seq (.ops [⟨(some 4), 6, .mv (.c (.b true)), none, []⟩])
  .ret)
  .skip))
  (.seq (.ops [⟨(some 15), 17, .load true 2 (.t 3), none, []⟩, ⟨(some 16), 18, .mv (.t 5), none, []⟩, ⟨(some 17), 19, .call 55 [((.t 15), 0), ((.t 16), 0)], none, []⟩, ⟨(some 5), 7, .mv (.t 17), none, []⟩])
  (.seq (.seq (.ops [⟨(some 18), 20, .mv (.t 5), none, []⟩, ⟨(some 19), 21, .bin .lss (.t 18) (.c (.i .i64 0)), none, []⟩])
  (.cond (.t 19)
  (.seq (.ops [⟨(some 4), 6, .mv (.c (.b true)), none, []⟩])
  .ret)
  .skip))
  (.seq (.draw [⟨(some 20), 22, .load true 2 (.t 2), none, []⟩, ⟨(some 21), 23, .call 57 [((.t 20), 0)], none, []⟩, ⟨(some 22), 24, .load true 2 (.t 3), none, [1]⟩, ⟨(some 23), 25, .call 57 [((.t 22), 0)], none, []⟩, ⟨(some 24), 26, .call 56 [((.t 21), 0), ((.t 23), 0)], none, []⟩, ⟨(some 6), 8, .mv (.t 24), none, []⟩])
  (.seq (.ops [⟨(some 25), 27, .load true 2 (.t 2), none, []⟩, ⟨(some 26), 28, .call 57 [((.t 25), 0)], none, []⟩, ⟨(some 7), 9, .box 2 (.c (.ag [(.sl true 4 []), (.sl true 1 [])])), none, []⟩, ⟨none, 1009003, .store 2 (.t 7) (.t 26), none, []⟩])
  (.seq (.ops [⟨(some 27), 29, .load true 2 (.t 3), none, []⟩, ⟨(some 28), 30, .call 57 [((.t 27), 0)], none, []⟩, ⟨(some 8), 10, .box 2 (.c (.ag [(.sl true 4 []), (.sl true 1 [])])), none, []⟩, ⟨none, 1010003, .store 2 (.t 8) (.t 28), none, []⟩])
  (.seq (.ops [⟨(some 29), 31, .load true 2 (.t 7), none, []⟩, ⟨(some 30), 32, .load true 2 (.t 8), none, []⟩, ⟨(some 31), 33, .call 58 [((.t 29), 0), ((.t 30), 0)], none, []⟩, ⟨(some 9), 11, .mv (.t 31), none, []⟩])
  (.seq (.seq (.ops [⟨(some 32), 34, .mv (.t 9), none, []⟩, ⟨(some 33), 35, .mv (.t 6), none, []⟩, ⟨(some 34), 36, .eqs true false [.b] (.t 32) (.t 33), none, []⟩])
  (.cond (.t 34)
  (.seq (.ops [⟨(some 4), 6, .mv (.c (.b false)), none, []⟩])
  .ret)
  .skip))
  (.seq (.seq (.draw [⟨(some 35), 37, .load true 2 (.t 7), none, []⟩, ⟨(some 36), 38, .load true 2 (.t 2), none, []⟩, ⟨(some 37), 39, .call 57 [((.t 36), 0)], none, [0]⟩, ⟨(some 38), 40, .call 59 [((.t 35), 0), ((.t 37), 0)], none, []⟩, ⟨(some 39), 41, .un .not (.t 38), none, []⟩])
  (.cond (.t 39)
  (.seq (.ops [⟨(some 4), 6, .mv (.c (.b false)), none, []⟩])
  .ret)
  .skip))
  (.seq (.seq (.draw [⟨(some 40), 42, .load true 2 (.t 8), none, []⟩, ⟨(some 41), 43, .load true 2 (.t 3), none, []⟩, ⟨(some 42), 44, .call 57 [((.t 41), 0)], none, [0]⟩, ⟨(some 43), 45, .call 59 [((.t 40), 0), ((.t 42), 0)], none, []⟩, ⟨(some 44), 46, .un .not (.t 43), none, []⟩])
  (.cond (.t 44)
  (.seq (.ops [⟨(some 4), 6, .mv (.c (.b false)), none, []⟩])
  .ret)
  .skip))
  (.seq (.ops [⟨(some 4), 6, .mv (.c (.b true)), none, []⟩])
  .ret))))))))))))))
theorem k12 : compCode Try.prog Try.f12.ntmps Try.f12.body.get! = some c12 := by kernel_rfl
theorem r12 : resTmps Try.prog Try.f12.results.toList = some [.tmp 4] := by kernel_rfl

/-- Rows whose cells hold slices: one's own, and only read. -/
theorem fzLL_map2 {α : Type} {f g : α → List TV} (h : ∀ x, fzL (f x) = g x) (l : List α) : fzLL (l.map f) = l.map g := by
  induction l with
  | nil => rfl
  | cons a l ih => simp [fzLL, h, ih]

abbrev NodeP := Int × ByteArray × Int × List Int
@[simp] def nT (x : NodeP) : List TV := [.i .i64 x.1, .s x.2.1, .i .i64 x.2.2.1, .sl false 1 (x.2.2.2.map iT)]
@[simp] def nO (x : NodeP) : List TV := [.i .i64 x.1, .s x.2.1, .i .i64 x.2.2.1, .sl true 1 (x.2.2.2.map iT)]
@[simp] theorem fzL_nT (x : NodeP) : fzL (nT x) = nT x := by simp
@[simp] theorem fzL_nO (x : NodeP) : fzL (nO x) = nT x := by simp
@[simp] theorem fzLL_nT (l : List NodeP) : fzLL (l.map nT) = l.map nT := fzLL_map fzL_nT l
@[simp] theorem fzLL_nO (l : List NodeP) : fzLL (l.map nO) = l.map nT := fzLL_map2 fzL_nO l
@[simp] theorem noROLL_nO (l : List NodeP) : noROLL (l.map nO) = true := noROLL_map (fun _ => by simp [noROL, noRO]) l
@[simp] theorem noref_nT (l : List NodeP) : (l.map nT).all (·.all noref) = true := noref_map (fun _ => by simp) l
abbrev nodeR (x : NodeP) : TV := .ag (nT x)
abbrev nodeO (x : NodeP) : TV := .ag (nO x)

def szNodeF (x : NodeP) (n : Int) : Int := if szF n x.2.1.size < 0 then -1 else szF (szF n x.2.1.size) x.2.2.2.length
theorem szNode_le (x : NodeP) (n : Int) (h : 0 ≤ n) : szNodeF x n ≤ n := by unfold szNodeF szF; (repeat' split) <;> omega
theorem szNode_neg (x : NodeP) (n : Int) (h : szNodeF x n < 0) : szNodeF x n = -1 := by
  revert h; unfold szNodeF szF; (repeat' split) <;> omega
theorem szNode_pos {x : NodeP} {n : Int} (h : 0 ≤ szNodeF x n) : (x.2.2.2.length : Int) ≤ n := by
  revert h; unfold szNodeF szF; (repeat' split) <;> omega
theorem w146 (x : NodeP) (n : Int) (h1 : x.2.1.size < 2^63) (h2 : x.2.2.2.length < 2^63) (hn : n < 2^62) (hn0 : 0 ≤ n) : Contract Try.prog false 146 [.ro, .ro] [nodeR x, .i .i64 n] [.i .i64 (szNodeF x n)] [] := by
  refine mk_contract [] Try.func146 (c := Try.f146.body.get!) (by kernel_rfl) k146 r146 (of_decide_eq_true rfl) fun _ => ?_
  have hw : IntKind.i64.wrap (n - x.2.1.size) = n - x.2.1.size := wrap_id (by omega) (by omega)
  have e1 : szF n x.2.1.size = if n - x.2.1.size < 0 then -1 else n - x.2.1.size := rfl
  unfold c146; simp [hw]
  refine ⟨fun h => ?_, fun h => ?_⟩
  · simp [szNodeF, e1, h]
  · have e2 : szF n x.2.1.size = n - x.2.1.size := by rw [e1, if_neg (by omega)]
    refine callW_ms [.ro, .ro] ?_
    simp
    refine callX_of (w107 x.2.2.2 (n - x.2.1.size) h2 (by omega) (by omega)) (by simp) ?_
    simp
    have e3 : szNodeF x n = szF (n - x.2.1.size) x.2.2.2.length := by unfold szNodeF; rw [e2, if_neg (by omega)]
    rw [e3]
    exact ⟨fun h => (szF_neg _ _ h).symm, fun _ => rfl⟩
theorem w106 (l : List NodeP) (n : Int) (hl : l.length < 2^63) (hd : ∀ x ∈ l, x.2.1.size < 2^63 ∧ x.2.2.2.length < 2^63) (hn : n < 2^62) (hn0 : 0 ≤ n) : Contract Try.prog false 106 [.ro, .ro] [.sl false 4 (l.map nT), .i .i64 n] [.i .i64 (szS szNodeF l n)] [] := by
  refine mk_contract [] Try.func106 (c := Try.f106.body.get!) (by kernel_rfl) k106 r106 (of_decide_eq_true rfl) fun _ => ?_
  have hw : IntKind.i64.wrap (n - l.length) = n - l.length := wrap_id (by omega) (by omega)
  unfold c106; simp [hw]
  refine ⟨fun h => ?_, fun h => ?_⟩
  · simp [szS, szF, h]
  have e : szF n l.length = n - l.length := by unfold szF; rw [if_neg (by omega)]
  have e2 : szS szNodeF l n = szA szNodeF l (n - l.length) := by unfold szS; rw [e, if_neg (by omega)]
  rw [e2]
  refine twp_for l.length (fun j s => s.t 0 = .sl false 4 (l.map nT) ∧ s.t 1 = .i .i64 (szA szNodeF (l.take j) (n - l.length)) ∧ s.t 5 = .i .i64 j ∧ 0 ≤ szA szNodeF (l.take j) (n - l.length) ∧ s.H = lk [(1, [])]) [] (by simp) ?_ ?_
  · simp; omega
  · rintro j s hj ⟨q0, q1, q5, h0, qH⟩
    rw [nf_of qH]
    simp [q0, q1, q5]
    refine ⟨fun hlt => ?_, fun hge => ?_⟩
    · have hw : IntKind.i64.wrap (j + 1) = j + 1 := wrap_id (by omega) (by omega)
      obtain ⟨x, hx⟩ := get_some hlt
      have hle := (szA_ok szNode_le (l.take j) _ h0 (by omega)).1
      have hs : szA szNodeF (l.take (j + 1)) (n - l.length) = szNodeF x (szA szNodeF (l.take j) (n - l.length)) := by
        rw [take_snoc hx, szA_snoc, if_neg (by omega)]
      have hng : szNodeF x (szA szNodeF (l.take j) (n - l.length)) < 0 → szNodeF x (szA szNodeF (l.take j) (n - l.length)) = -1 := szNode_neg _ _
      have hng2 := szA_take szNodeF l (n - l.length) (j + 1)
      rw [hs] at hng2
      generalize szA szNodeF (l.take j) (n - l.length) = m at *
      obtain ⟨b1, b2⟩ := hd x (List.mem_of_getElem? hx)
      simp [hx, hw, q0, q1, q5]
      refine callW_ms [.ro, .ro] ?_
      simp
      refine callX_of (w146 x m b1 b2 (by omega) h0) (by simp) ?_
      simp [hw, q0, q1, q5]
      generalize szNodeF x m = m' at *
      refine ⟨fun h1 => (hng2 (hng h1)).symm, fun h1 => ⟨hlt, by rw [hs], by rw [hs]; omega⟩⟩
    · obtain rfl : j = l.length := by omega
      simp [q0, q1, q5]
theorem w147 (x : NodeP) (h : x.2.2.2.length ≤ 2^40) : Contract Try.prog false 147 [.ro] [nodeR x] [nodeO x] [] := by
  refine mk_contract [] Try.func147 (c := Try.f147.body.get!) (by kernel_rfl) k147 r147 (of_decide_eq_true rfl) fun _ => ?_
  unfold c147; simp
  refine callW_ms [.ro] ?_
  simp
  refine callX_of (w110 x.2.2.2 h) (by simp) ?_
  simp
theorem w109 (l : List NodeP) (hl : l.length ≤ 2^36) (hd : ∀ x ∈ l, x.2.2.2.length ≤ 2^40) : Contract Try.prog false 109 [.ro] [.sl false 4 (l.map nT)] [.sl true 4 (l.map nO)] [] := by
  refine mk_contract [] Try.func109 (c := Try.f109.body.get!) (by kernel_rfl) k109 r109 (of_decide_eq_true rfl) fun _ => ?_
  unfold c109; simp
  refine ⟨by omega, ?_⟩
  refine twp_for l.length (fun j s => s.t 0 = .sl false 4 (l.map nT) ∧ s.t 3 = .rf [(9, 0)] 0 l.length ∧ s.t 4 = .i .i64 j ∧ s.H = lk [(1, []), (9, [.sl true 4 ((l.map nO).take j ++ List.replicate (l.length - j) [.i .i64 0, .s ⟨#[]⟩, .i .i64 0, .sl true 1 []])])]) [22] (by simp) ?_ ?_
  · simp
  · rintro j s hj ⟨q0, q3, q4, qH⟩
    rw [nf_of qH]
    simp [q0, q3, q4]
    refine ⟨fun hlt => ?_, fun hge => ?_⟩
    · have hw : IntKind.i64.wrap (j + 1) = j + 1 := wrap_id (by omega) (by omega)
      obtain ⟨x, hx⟩ := get_some hlt
      have hmin : min j l.length = j := by omega
      simp [hx, hw, q0, q3, q4]
      refine callW_ms [.ro] ?_
      simp
      refine callX_of (w147 x (hd x (List.mem_of_getElem? hx))) (by simp) ?_
      simp [hw, q0, q3, q4, rep_at hlt, mapsnoc hx, hmin]
      omega
    · obtain rfl : j = l.length := by omega
      simp [q0, q3, q4]
abbrev treeR (l : List NodeP) (t : List Int) : TV := .ag [.sl false 4 (l.map nT), .sl false 1 (t.map iT)]
abbrev treeO (l : List NodeP) (t : List Int) : TV := .ag [.sl true 4 (l.map nO), .sl true 1 (t.map iT)]
theorem w57 (l : List NodeP) (t : List Int) (hl : l.length ≤ 2^36) (hd : ∀ x ∈ l, x.2.2.2.length ≤ 2^40) (ht : t.length ≤ 2^40) : Contract Try.prog false 57 [.ro] [treeR l t] [treeO l t] [] := by
  refine mk_contract [] Try.func57 (c := Try.f57.body.get!) (by kernel_rfl) k57 r57 (of_decide_eq_true rfl) fun _ => ?_
  unfold c57; simp
  refine callW_ms [.ro] ?_
  simp
  refine callX_of (w109 l hl hd) (by simp) ?_
  simp
  refine callW_ms [.ro] ?_
  simp
  refine callX_of (w110 t ht) (by simp) ?_
  simp

def szTreeF (l : List NodeP) (t : List Int) (n : Int) : Int := if szS szNodeF l n < 0 then -1 else szF (szS szNodeF l n) t.length
theorem w55 (l : List NodeP) (t : List Int) (n : Int) (hl : l.length < 2^63) (hd : ∀ x ∈ l, x.2.1.size < 2^63 ∧ x.2.2.2.length < 2^63) (ht : t.length < 2^63) (hn : n < 2^62) (hn0 : 0 ≤ n) : Contract Try.prog false 55 [.ro, .ro] [treeR l t, .i .i64 n] [.i .i64 (szTreeF l t n)] [] := by
  refine mk_contract [] Try.func55 (c := Try.f55.body.get!) (by kernel_rfl) k55 r55 (of_decide_eq_true rfl) fun _ => ?_
  unfold c55; simp
  refine callW_ms [.ro, .ro] ?_
  simp
  refine callX_of (w106 l n hl hd hn hn0) (by simp) ?_
  simp
  refine ⟨fun h => ?_, fun h => ?_⟩
  · simp [szTreeF, h]
  · have hle := (szS_lo szNode_le hn0 (by omega : ¬ szS szNodeF l n < 0)).2.1
    refine callW_ms [.ro, .ro] ?_
    simp
    refine callX_of (w107 t _ ht (by omega) h) (by simp) ?_
    simp
    have e : szTreeF l t n = szF (szS szNodeF l n) t.length := by unfold szTreeF; rw [if_neg (by omega)]
    rw [e]
    exact ⟨fun h => (szF_neg _ _ h).symm, fun _ => rfl⟩
theorem szTree_ok {l : List NodeP} {t : List Int} {n : Int} (h0 : 0 ≤ n) (h : ¬ szTreeF l t n < 0) : 0 ≤ szTreeF l t n ∧ szTreeF l t n ≤ n ∧ (l.length : Int) ≤ n ∧ (t.length : Int) ≤ n ∧ ∀ x ∈ l, (x.2.2.2.length : Int) ≤ n := by
  have e1 : ¬ szS szNodeF l n < 0 := fun h1 => h (by unfold szTreeF; rw [if_pos h1]; decide)
  obtain ⟨h1, h2, h3, h4⟩ := szS_lo szNode_le h0 e1
  have e : szTreeF l t n = szF (szS szNodeF l n) t.length := by unfold szTreeF; rw [if_neg e1]
  rw [e] at h ⊢
  have h5 : szF (szS szNodeF l n) t.length = szS szNodeF l n - t.length := by
    unfold szF at h ⊢; split at h <;> rename_i h6
    · exact absurd (by decide) h
    · rw [if_neg h6]
  rw [h5] at h ⊢
  refine ⟨by omega, by omega, h3, by omega, fun x hx => ?_⟩
  obtain ⟨m, m1, m2, m3⟩ := h4 x hx
  have := szNode_pos m3
  omega
theorem w148 (x : NodeP) (h : x.2.2.2.length ≤ 2^40) : Contract Try.prog false 148 [.ro, .ro] [nodeR x, nodeR x] [.b true] [] := by
  refine mk_contract [] Try.func148 (c := Try.f148.body.get!) (by kernel_rfl) k148 r148 (of_decide_eq_true rfl) fun _ => ?_
  unfold c148; simp
  refine callW_ms [.ro, .ro] ?_
  simp
  refine callX_of (w115 x.2.2.2 x.2.2.2 h h) (by simp) ?_
  simp
theorem w114 (l : List NodeP) (hl : l.length ≤ 2^36) (hd : ∀ x ∈ l, x.2.2.2.length ≤ 2^40) : Contract Try.prog false 114 [.ro, .ro] [.sl false 4 (l.map nT), .sl false 4 (l.map nT)] [.b true] [] := by
  refine mk_contract [] Try.func114 (c := Try.f114.body.get!) (by kernel_rfl) k114 r114 (of_decide_eq_true rfl) fun _ => ?_
  unfold c114; simp
  refine twp_for l.length (fun j s => s.t 0 = .sl false 4 (l.map nT) ∧ s.t 1 = .sl false 4 (l.map nT) ∧ s.t 5 = .i .i64 j ∧ s.H = lk [(1, [])]) [] (by simp) ?_ ?_
  · simp
  · rintro j s hj ⟨q0, q1, q5, qH⟩
    rw [nf_of qH]
    simp [q0, q1, q5]
    intro hlt
    have hw : IntKind.i64.wrap (j + 1) = j + 1 := wrap_id (by omega) (by omega)
    obtain ⟨x, hx⟩ := get_some hlt
    simp [hx, hw, q0, q1, q5]
    refine callW_ms [.ro, .ro] ?_
    simp
    refine callX_of (w148 x (hd x (List.mem_of_getElem? hx))) (by simp) ?_
    simp [hw, q0, q1, q5]
    exact hlt
theorem w59 (l : List NodeP) (t : List Int) (hl : l.length ≤ 2^36) (hd : ∀ x ∈ l, x.2.2.2.length ≤ 2^40) (ht : t.length ≤ 2^40) : Contract Try.prog false 59 [.ro, .ro] [treeR l t, treeR l t] [.b true] [] := by
  refine mk_contract [] Try.func59 (c := Try.f59.body.get!) (by kernel_rfl) k59 r59 (of_decide_eq_true rfl) fun _ => ?_
  unfold c59; simp
  refine callW_ms [.ro, .ro] ?_
  simp
  refine callX_of (w114 l hl hd) (by simp) ?_
  simp
  refine callW_ms [.ro, .ro] ?_
  simp
  refine callX_of (w115 t t ht ht) (by simp) ?_
  simp
theorem w108 (a b : List Int) (ha : a.length ≤ 2^40) (hb : b.length ≤ 2^40) : Contract Try.prog false 108 [.ro, .ro] [.sl false 1 (a.map iT), .sl false 1 (b.map iT)] [.b (decide (a = b))] [] := by
  refine mk_contract [] Try.func108 (c := Try.f108.body.get!) (by kernel_rfl) k108 r108 (of_decide_eq_true rfl) fun _ => ?_
  unfold c108; simp
  refine ⟨fun h => ?_, fun h => ?_⟩
  · refine twp_for a.length (fun j s => s.t 0 = .sl false 1 (a.map iT) ∧ s.t 1 = .sl false 1 (b.map iT) ∧ s.t 5 = .i .i64 j ∧ a.take j = b.take j ∧ s.H = lk [(1, [])]) [] (by simp) ?_ ?_
    · simp
    · rintro j s hj ⟨q0, q1, q5, hab, qH⟩
      rw [nf_of qH]
      simp [q0, q1, q5]
      refine ⟨fun hlt => ?_, fun hge => ?_⟩
      · have hw : IntKind.i64.wrap (j + 1) = j + 1 := wrap_id (by omega) (by omega)
        obtain ⟨x, hx⟩ := get_some hlt
        obtain ⟨y, hy⟩ := get_some (l := b) (j := j) (by omega)
        simp [hx, hy, hw, q0, q1, q5]
        refine ⟨fun hxy => ⟨hlt, by rw [take_snoc hx, take_snoc hy, hab, hxy]⟩, fun hxy hab => hxy (by subst hab; simpa [hx] using hy)⟩
      · obtain rfl : j = a.length := by omega
        rw [List.take_of_length_le (Nat.le_refl _), List.take_of_length_le (by omega)] at hab
        exact hab
  · rintro rfl; exact h rfl
theorem w111 (a b : List Int) (ha : a.length ≤ 2^40) (hb : b.length ≤ 2^40) : Contract Try.prog false 111 [.ro, .ro] [.sl false 1 (a.map iT), .sl false 1 (b.map iT)] [.b (decide (a = b))] [] := by
  refine mk_contract [] Try.func111 (c := Try.f111.body.get!) (by kernel_rfl) k111 r111 (of_decide_eq_true rfl) fun _ => ?_
  unfold c111; simp
  refine ⟨fun h => ?_, fun h => ?_⟩
  · refine twp_for a.length (fun j s => s.t 0 = .sl false 1 (a.map iT) ∧ s.t 1 = .sl false 1 (b.map iT) ∧ s.t 12 = .i .i64 a.length ∧ s.t 13 = .i .i64 j ∧ a.take j = b.take j ∧ s.H = lk [(1, [])]) [] (by simp) ?_ ?_
    · simp
    · rintro j s hj ⟨q0, q1, q12, q13, hab, qH⟩
      rw [nf_of qH]
      simp [q0, q1, q12, q13]
      refine ⟨fun hlt => ?_, fun hge => ?_⟩
      · have hw : IntKind.i64.wrap (j + 1) = j + 1 := wrap_id (by omega) (by omega)
        obtain ⟨x, hx⟩ := get_some hlt
        obtain ⟨y, hy⟩ := get_some (l := b) (j := j) (by omega)
        simp [hx, hy, hw, q0, q1, q12, q13]
        refine ⟨fun hxy => ⟨hlt, by rw [take_snoc hx, take_snoc hy, hab, hxy]⟩, fun hxy hab => hxy (by subst hab; simpa [hx] using hy)⟩
      · obtain rfl : j = a.length := by omega
        rw [List.take_of_length_le (Nat.le_refl _), List.take_of_length_le (by omega)] at hab
        exact hab
  · rintro rfl; exact h rfl
theorem node_ext {x y : NodeP} : x = y ↔ x.1 = y.1 ∧ x.2.1 = y.2.1 ∧ x.2.2.1 = y.2.2.1 ∧ x.2.2.2 = y.2.2.2 := by
  obtain ⟨a, b, c, d⟩ := x; obtain ⟨a', b', c', d'⟩ := y; simp
theorem w113 (x y : NodeP) (hx : x.2.2.2.length ≤ 2^40) (hy : y.2.2.2.length ≤ 2^40) : Contract Try.prog false 113 [.ro, .ro] [nodeR x, nodeR y] [.b (decide (x = y))] [] := by
  refine mk_contract [] Try.func113 (c := Try.f113.body.get!) (by kernel_rfl) k113 r113 (of_decide_eq_true rfl) fun _ => ?_
  have hxy := @node_ext x y
  unfold c113; simp
  by_cases h1 : x.1 = y.1
  · simp [h1]
    by_cases h2 : x.2.1 = y.2.1
    · simp [h2]
      by_cases h3 : x.2.2.1 = y.2.2.1
      · simp [h3]
        refine callW_ms [.ro, .ro] ?_
        simp
        refine callX_of (w111 x.2.2.2 y.2.2.2 hx hy) (by simp) ?_
        simp
        simp [hxy, h1, h2, h3]
      · simp [h3, hxy]
    · simp [h2, hxy]
  · simp [h1, hxy]
theorem w112 (a b : List NodeP) (ha : a.length ≤ 2^36) (hb : b.length ≤ 2^36) (h1 : ∀ x ∈ a, x.2.2.2.length ≤ 2^40) (h2 : ∀ x ∈ b, x.2.2.2.length ≤ 2^40) : Contract Try.prog false 112 [.ro, .ro, .ro] [.sl false 4 (a.map nT), .sl false 4 (b.map nT), .fn 113 []] [.b (decide (a = b))] [] := by
  refine mk_contract [] Try.func112 (c := Try.f112.body.get!) (by kernel_rfl) k112 r112 (of_decide_eq_true rfl) fun _ => ?_
  unfold c112; simp
  refine ⟨fun h => ?_, fun h => ?_⟩
  · refine twp_for a.length (fun j s => s.t 0 = .sl false 4 (a.map nT) ∧ s.t 1 = .sl false 4 (b.map nT) ∧ s.t 2 = .fn 113 [] ∧ s.t 15 = .sl false 4 (a.map nT) ∧ s.t 16 = .i .i64 a.length ∧ s.t 17 = .i .i64 j ∧ a.take j = b.take j ∧ s.H = lk [(1, [])]) [10, 11] (by simp) ?_ ?_
    · simp
    · rintro j s hj ⟨q0, q1, q2, q15, q16, q17, hab, qH⟩
      rw [nf_of qH]
      simp [q0, q1, q2, q15, q16, q17]
      refine ⟨fun hlt => ?_, fun hge => ?_⟩
      · have hw : IntKind.i64.wrap (j + 1) = j + 1 := wrap_id (by omega) (by omega)
        obtain ⟨x, hx⟩ := get_some hlt
        obtain ⟨y, hy⟩ := get_some (l := b) (j := j) (by omega)
        simp [hx, hy, hw, q0, q1, q2, q15, q16, q17]
        refine ⟨by kernel_rfl, ?_⟩
        by_cases hxy : x = y
        · refine callW_ms [.ro, .ro] ?_
          simp
          refine callX_of ((w113 x y (h1 x (List.mem_of_getElem? hx)) (h2 y (List.mem_of_getElem? hy))).t hxy) (by simp) ?_
          simp [hw, q0, q1, q2, q15, q16, q17]
          exact ⟨hlt, by rw [take_snoc hx, take_snoc hy, hab, hxy]⟩
        · refine callW_ms [.ro, .ro] ?_
          simp
          refine callX_of ((w113 x y (h1 x (List.mem_of_getElem? hx)) (h2 y (List.mem_of_getElem? hy))).f hxy) (by simp) ?_
          simp [hw, q0, q1, q2, q15, q16, q17]
          intro hab2; subst hab2; rw [hx] at hy; cases hy; exact absurd rfl hxy
      · obtain rfl : j = a.length := by omega
        rw [List.take_of_length_le (Nat.le_refl _), List.take_of_length_le (by omega)] at hab
        exact hab
  · rintro rfl; exact h rfl
theorem w58 (l : List NodeP) (t : List Int) (l' : List NodeP) (t' : List Int) (ha : l.length ≤ 2^36) (hb : l'.length ≤ 2^36) (h1 : ∀ x ∈ l, x.2.2.2.length ≤ 2^40) (h2 : ∀ x ∈ l', x.2.2.2.length ≤ 2^40) (ht : t.length ≤ 2^40) (ht' : t'.length ≤ 2^40) : Contract Try.prog false 58 [.ro, .ro] [treeR l t, treeR l' t'] [.b (decide (t = t' ∧ l = l'))] [] := by
  refine mk_contract [] Try.func58 (c := Try.f58.body.get!) (by kernel_rfl) k58 r58 (of_decide_eq_true rfl) fun _ => ?_
  unfold c58; simp
  by_cases htt : t = t'
  · refine callW_ms [.ro, .ro] ?_
    simp
    refine callX_of ((w111 t t' ht ht').t htt) (by simp) ?_
    simp
    refine callW_ms [.ro, .ro, .ro] ?_
    simp
    refine callX_of (w112 l l' ha hb h1 h2) (by simp) ?_
    simp [htt]
  · refine callW_ms [.ro, .ro] ?_
    simp
    refine callX_of ((w111 t t' ht ht').f htt) (by simp) ?_
    simp [htt]
theorem w56 (l : List NodeP) (t : List Int) (l' : List NodeP) (t' : List Int) (ha : l.length ≤ 2^36) (hb : l'.length ≤ 2^36) (h1 : ∀ x ∈ l, x.2.2.2.length ≤ 2^40) (h2 : ∀ x ∈ l', x.2.2.2.length ≤ 2^40) (ht : t.length ≤ 2^40) (ht' : t'.length ≤ 2^40) : Contract Try.prog false 56 [.ro, .ro] [treeR l t, treeR l' t'] [.b (decide (t = t' ∧ l = l'))] [] := by
  refine mk_contract [] Try.func56 (c := Try.f56.body.get!) (by kernel_rfl) k56 r56 (of_decide_eq_true rfl) fun _ => ?_
  unfold c56; simp
  by_cases hll : l.length = l'.length
  · simp [hll]
    by_cases htt : t = t'
    · refine callW_ms [.ro, .ro] ?_
      simp
      refine callX_of ((w108 t t' ht ht').t htt) (by simp) ?_
      simp
      refine twp_for l.length (fun j s => s.t 2 = .pt [(4, 0)] 0 0 ∧ s.t 3 = .pt [(5, 0)] 0 0 ∧ s.t 5 = .i .i64 j ∧ l.take j = l'.take j ∧ s.H = lk [(1, []), (4, [.po true [.sl false 4 (l.map nT), .sl false 1 (t.map iT)]]), (5, [.po true [.sl false 4 (l'.map nT), .sl false 1 (t'.map iT)]])]) [8, 9] (by simp) ?_ ?_
      · simp
      · rintro j s hj ⟨q2, q3, q5, hab, qH⟩
        rw [nf_of qH]
        simp [q2, q3, q5]
        refine ⟨fun hlt => ?_, fun hge => ?_⟩
        · have hw : IntKind.i64.wrap (j + 1) = j + 1 := wrap_id (by omega) (by omega)
          obtain ⟨x, hx⟩ := get_some hlt
          obtain ⟨y, hy⟩ := get_some (l := l') (j := j) (by omega)
          have hne := @node_ext x y
          have hcon : x ≠ y → ¬ l = l' := fun h1 h2 => by subst h2; rw [hx] at hy; cases hy; exact h1 rfl
          simp [hx, hy, hw, q2, q3, q5]
          by_cases g1 : x.1 = y.1
          · simp [g1, hw, q2, q3, q5]
            by_cases g2 : x.2.1 = y.2.1
            · simp [g2, hw, q2, q3, q5]
              by_cases g3 : x.2.2.1 = y.2.2.1
              · simp [g3, hw, q2, q3, q5]
                by_cases g4 : x.2.2.2 = y.2.2.2
                · refine callW_ms [.ro, .ro] ?_
                  simp
                  refine callX_of ((w108 x.2.2.2 y.2.2.2 (h1 x (List.mem_of_getElem? hx)) (h2 y (List.mem_of_getElem? hy))).t g4) (by simp) ?_
                  simp [hw, q2, q3, q5]
                  have hxy : x = y := hne.2 ⟨g1, g2, g3, g4⟩
                  exact ⟨hlt, by rw [take_snoc hx, take_snoc hy, hab, hxy]⟩
                · refine callW_ms [.ro, .ro] ?_
                  simp
                  refine callX_of ((w108 x.2.2.2 y.2.2.2 (h1 x (List.mem_of_getElem? hx)) (h2 y (List.mem_of_getElem? hy))).f g4) (by simp) ?_
                  simp [hw, q2, q3, q5]
                  exact fun _ => hcon fun h => g4 (hne.1 h).2.2.2
              · simp [g3, hw, q2, q3, q5]
                exact fun _ => hcon fun h => g3 (hne.1 h).2.2.1
            · simp [g2, hw, q2, q3, q5]
              exact fun _ => hcon fun h => g2 (hne.1 h).2.1
          · simp [g1, hw, q2, q3, q5]
            exact fun _ => hcon fun h => g1 (hne.1 h).1
        · obtain rfl : j = l.length := by omega
          rw [List.take_of_length_le (Nat.le_refl _), List.take_of_length_le (by omega)] at hab
          simp [htt, hab]
    · refine callW_ms [.ro, .ro] ?_
      simp
      refine callX_of ((w108 t t' ht ht').f htt) (by simp) ?_
      simp
      exact fun h => absurd h htt
  · have hll' : ¬ ((l.length : Int) = l'.length) := by omega
    simp [hll']
    intro _ h; exact hll (by rw [h])
theorem w12 (l : List NodeP) (t : List Int) (l' : List NodeP) (t' : List Int) (hl : l.length < 2^63) (hd : ∀ x ∈ l, x.2.1.size < 2^63 ∧ x.2.2.2.length < 2^63) (ht : t.length < 2^63) (hl' : l'.length < 2^63) (hd' : ∀ x ∈ l', x.2.1.size < 2^63 ∧ x.2.2.2.length < 2^63) (ht' : t'.length < 2^63) : Contract Try.prog false 12 [.ro, .ro] [treeR l t, treeR l' t'] [.b true] [] := by
  refine mk_contract [] Try.func12 (c := Try.f12.body.get!) (by kernel_rfl) k12 r12 (of_decide_eq_true rfl) fun _ => ?_
  unfold c12; simp
  refine callW_ms [.ro, .ro] ?_
  simp
  refine callX_of (w55 l t _ hl hd ht (by omega) (by omega)) (by simp) ?_
  simp
  intro h
  obtain ⟨e0, e1, a1, a2, a3⟩ := szTree_ok (by omega) (by omega : ¬ szTreeF l t 1048576 < 0)
  refine callW_ms [.ro, .ro] ?_
  simp
  refine callX_of (w55 l' t' _ hl' hd' ht' (by omega) (by omega)) (by simp) ?_
  simp
  intro h'
  obtain ⟨f0, f1, b1, b2, b3⟩ := szTree_ok e0 (by omega : ¬ szTreeF l' t' (szTreeF l t 1048576) < 0)
  have c1 : l.length ≤ 2^36 := by omega
  have c2 : t.length ≤ 2^40 := by omega
  have c3 : ∀ x ∈ l, x.2.2.2.length ≤ 2^40 := fun x hx => by have := a3 x hx; omega
  have d1 : l'.length ≤ 2^36 := by omega
  have d2 : t'.length ≤ 2^40 := by omega
  have d3 : ∀ x ∈ l', x.2.2.2.length ≤ 2^40 := fun x hx => by have := b3 x hx; omega
  refine callW_ms [.ro] ?_
  simp
  refine callX_of (w57 l t c1 c3 c2) (by simp) ?_
  simp
  refine callW_ms [.ro] ?_
  simp
  refine callX_of (w57 l' t' d1 d3 d2) (by simp) ?_
  simp
  refine callW_ms [.ro, .ro] ?_
  simp
  refine callX_of (w56 l t l' t' c1 d1 c3 d3 c2 d2) (by simp) ?_
  simp
  refine callW_ms [.ro] ?_
  simp
  refine callX_of (w57 l t c1 c3 c2) (by simp) ?_
  simp
  refine callW_ms [.ro] ?_
  simp
  refine callX_of (w57 l' t' d1 d3 d2) (by simp) ?_
  simp
  refine callW_ms [.ro, .ro] ?_
  simp
  refine callX_of (w58 l t l' t' c1 d1 c3 d3 c2 d2) (by simp) ?_
  simp
  refine callW_ms [.ro] ?_
  simp
  refine callX_of (w57 l t c1 c3 c2) (by simp) ?_
  simp
  refine callW_ms [.ro, .ro] ?_
  simp
  refine callX_of (w59 l t c1 c3 c2) (by simp) ?_
  simp
  refine callW_ms [.ro] ?_
  simp
  refine callX_of (w57 l' t' d1 d3 d2) (by simp) ?_
  simp
  refine callW_ms [.ro, .ro] ?_
  simp
  refine callX_of (w59 l' t' d1 d3 d2) (by simp) ?_
  simp
end Go.Proofs.YtloodkhdngipbaaT
