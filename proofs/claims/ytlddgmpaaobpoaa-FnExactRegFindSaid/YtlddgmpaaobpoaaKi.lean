/- Regs: kinds and places. -/
import Derived.Test.YtlddgmpaaobpoaaKh
namespace Go.Proofs.YtlddgmpaaobpoaaT
set_option linter.unusedVariables false
set_option linter.unusedSimpArgs false
open Go

/- spec.l3List -/
def c74 : TCode := (.seq (.ops [⟨(some 2), 4, .box 3 (.t 0), none, []⟩, ⟨(some 4), 6, .mv (.c (.sl true 2 [])), none, []⟩])
  (.seq (.seq (.ops [⟨(some 5), 7, .mv (.t 1), none, []⟩])
  (.block 0 (.seq (.ops [⟨(some 7), 9, .bin .eql (.t 5) (.c (.i .i64 1)), none, []⟩, ⟨(some 6), 8, .mv (.t 7), none, []⟩])
  (.cond (.t 6)
  (.seq (.ops [⟨(some 8), 10, .faddr 0 1 (.t 2), none, []⟩, ⟨(some 9), 11, .load false 1 (.t 8), none, []⟩, ⟨(some 4), 6, .mv (.t 9), none, []⟩])
  .ret)
  (.seq (.ops [⟨(some 11), 13, .bin .eql (.t 5) (.c (.i .i64 2)), none, []⟩, ⟨(some 10), 12, .mv (.t 11), none, []⟩])
  (.cond (.t 10)
  (.seq (.ops [⟨(some 12), 14, .faddr 1 1 (.t 2), none, []⟩, ⟨(some 13), 15, .load false 1 (.t 12), none, []⟩, ⟨(some 4), 6, .mv (.t 13), none, []⟩])
  .ret)
  (.seq (.ops [⟨(some 15), 17, .bin .eql (.t 5) (.c (.i .i64 3)), none, []⟩, ⟨(some 14), 16, .mv (.t 15), none, []⟩])
  (.cond (.t 14)
  (.seq (.ops [⟨(some 16), 18, .faddr 2 1 (.t 2), none, []⟩, ⟨(some 17), 19, .load false 1 (.t 16), none, []⟩, ⟨(some 4), 6, .mv (.t 17), none, []⟩])
  .ret)
  .skip))))))))
  (.seq (.ops [⟨(some 4), 6, .mv (.c (.sl true 2 [])), none, []⟩])
  .ret)))
theorem k74 : compCode Try.prog Try.f74.ntmps Try.f74.body.get! = some c74 := by kernel_rfl
theorem r74 : resTmps Try.prog Try.f74.results.toList = some [.tmp 4] := by kernel_rfl
/- (*impl.Reg).decls -/
def c83 : TCode := (.seq (.ops [⟨(some 4), 6, .mv (.c (.sl true 2 [])), none, []⟩])
  (.seq (.seq (.ops [⟨(some 5), 7, .mv (.t 1), none, []⟩])
  (.block 0 (.seq (.ops [⟨(some 7), 9, .bin .eql (.t 5) (.c (.i .i64 1)), none, []⟩, ⟨(some 6), 8, .mv (.t 7), none, []⟩])
  (.cond (.t 6)
  (.seq (.ops [⟨(some 8), 10, .mv (.t 0), none, []⟩, ⟨(some 9), 11, .nilck (.t 8), none, []⟩, ⟨(some 10), 12, .faddr 0 1 (.t 9), none, []⟩, ⟨(some 11), 13, .load false 1 (.t 10), none, []⟩, ⟨(some 4), 6, .mv (.t 11), none, []⟩])
  .ret)
  (.seq (.ops [⟨(some 13), 15, .bin .eql (.t 5) (.c (.i .i64 2)), none, []⟩, ⟨(some 12), 14, .mv (.t 13), none, []⟩])
  (.cond (.t 12)
  (.seq (.ops [⟨(some 14), 16, .mv (.t 0), none, []⟩, ⟨(some 15), 17, .nilck (.t 14), none, []⟩, ⟨(some 16), 18, .faddr 1 1 (.t 15), none, []⟩, ⟨(some 17), 19, .load false 1 (.t 16), none, []⟩, ⟨(some 4), 6, .mv (.t 17), none, []⟩])
  .ret)
  (.seq (.ops [⟨(some 19), 21, .bin .eql (.t 5) (.c (.i .i64 3)), none, []⟩, ⟨(some 18), 20, .mv (.t 19), none, []⟩])
  (.cond (.t 18)
  (.seq (.ops [⟨(some 20), 22, .mv (.t 0), none, []⟩, ⟨(some 21), 23, .nilck (.t 20), none, []⟩, ⟨(some 22), 24, .faddr 2 1 (.t 21), none, []⟩, ⟨(some 23), 25, .load false 1 (.t 22), none, []⟩, ⟨(some 4), 6, .mv (.t 23), none, []⟩])
  .ret)
  .skip))))))))
  (.seq (.ops [⟨(some 4), 6, .mv (.c (.sl true 2 [])), none, []⟩])
  .ret)))
theorem k83 : compCode Try.prog Try.f83.ntmps Try.f83.body.get! = some c83 := by kernel_rfl
theorem r83 : resTmps Try.prog Try.f83.results.toList = some [.tmp 4] := by kernel_rfl
/- (*impl.Reg).kind -/
def c75 : TCode := (.seq (.ops [⟨(some 6), 8, .mv (.c (.i .i64 0)), none, []⟩])
  (.seq (.ops [⟨(some 8), 10, .mv (.t 0), none, []⟩, ⟨(some 9), 11, .mv (.t 1), none, []⟩, ⟨(some 10), 12, .call 83 [((.t 8), 3), ((.t 9), 0)], none, []⟩, ⟨(some 7), 9, .mv (.t 10), none, []⟩])
  (.seq (.seq (.ops [⟨(some 11), 13, .mv (.t 2), none, []⟩, ⟨(some 12), 14, .mv (.t 7), none, []⟩, ⟨(some 13), 15, .len false (.t 12), none, []⟩, ⟨(some 14), 16, .bin .sub (.t 13) (.c (.i .i64 1)), none, []⟩, ⟨(some 15), 17, .call 54 [((.t 11), 0), ((.c (.i .i64 0)), 0), ((.t 14), 0)], none, []⟩, ⟨(some 16), 18, .un .not (.t 15), none, []⟩])
  (.cond (.t 16)
  (.seq (.ops [⟨(some 6), 8, .mv (.c (.i .i64 0)), none, []⟩])
  .ret)
  .skip))
  (.seq (.ops [⟨(some 17), 19, .mv (.t 7), none, []⟩, ⟨(some 18), 20, .mv (.t 2), none, []⟩, ⟨(some 19), 21, .iaddr 2 (.t 17) (.t 18), none, []⟩, ⟨(some 20), 22, .faddr 1 1 (.t 19), none, []⟩, ⟨(some 21), 23, .load false 1 (.t 20), none, []⟩, ⟨(some 6), 8, .mv (.t 21), none, []⟩])
  .ret))))
theorem k75 : compCode Try.prog Try.f75.ntmps Try.f75.body.get! = some c75 := by kernel_rfl
theorem r75 : resTmps Try.prog Try.f75.results.toList = some [.tmp 6] := by kernel_rfl
/- spec.RegKind -/
def c46 : TCode := (.seq (.ops [⟨(some 3), 5, .box 3 (.t 0), none, []⟩, ⟨(some 6), 8, .mv (.c (.i .i64 0)), none, []⟩])
  (.seq (.ops [⟨(some 8), 10, .load true 3 (.t 3), none, []⟩, ⟨(some 9), 11, .mv (.t 1), none, []⟩, ⟨(some 10), 12, .call 74 [((.t 8), 0), ((.t 9), 0)], none, []⟩, ⟨(some 7), 9, .mv (.t 10), none, []⟩])
  (.seq (.seq (.ops [⟨(some 11), 13, .load true 3 (.t 3), none, []⟩, ⟨(some 12), 14, .call 42 [((.t 11), 0)], none, []⟩, ⟨(some 13), 15, .un .not (.t 12), none, []⟩, ⟨(some 14), 16, .mv (.t 13), none, []⟩, ⟨(some 15), 17, .mv (.t 2), (some (14, false)), []⟩, ⟨(some 16), 18, .mv (.t 7), (some (14, false)), []⟩, ⟨(some 17), 19, .len false (.t 16), (some (14, false)), []⟩, ⟨(some 18), 20, .bin .sub (.t 17) (.c (.i .i64 1)), (some (14, false)), []⟩, ⟨(some 19), 21, .call 51 [((.t 15), 0), ((.c (.i .i64 0)), 0), ((.t 18), 0)], (some (14, false)), []⟩, ⟨(some 20), 22, .un .not (.t 19), (some (14, false)), []⟩, ⟨(some 21), 23, .pick (.t 14) (.c (.b true)) (.t 20), none, []⟩])
  (.cond (.t 21)
  (.seq (.ops [⟨(some 6), 8, .mv (.c (.i .i64 0)), none, []⟩])
  .ret)
  .skip))
  (.seq (.ops [⟨(some 22), 24, .mv (.t 7), none, []⟩, ⟨(some 23), 25, .mv (.t 2), none, []⟩, ⟨(some 24), 26, .iaddr 2 (.t 22) (.t 23), none, []⟩, ⟨(some 25), 27, .faddr 1 1 (.t 24), none, []⟩, ⟨(some 26), 28, .load false 1 (.t 25), none, []⟩, ⟨(some 6), 8, .mv (.t 26), none, []⟩])
  .ret))))
theorem k46 : compCode Try.prog Try.f46.ntmps Try.f46.body.get! = some c46 := by kernel_rfl
theorem r46 : resTmps Try.prog Try.f46.results.toList = some [.tmp 6] := by kernel_rfl
/- impl.RegKind -/
def c47 : TCode := (.seq (.ops [⟨(some 3), 5, .box 3 (.t 0), none, []⟩, ⟨(some 6), 8, .mv (.c (.i .i64 0)), none, []⟩])
  (.seq (.seq (.ops [⟨(some 7), 9, .load true 3 (.t 3), none, []⟩, ⟨(some 8), 10, .call 44 [((.t 7), 0)], none, []⟩, ⟨(some 9), 11, .un .not (.t 8), none, []⟩])
  (.cond (.t 9)
  (.seq (.ops [⟨(some 6), 8, .mv (.c (.i .i64 0)), none, []⟩])
  .ret)
  .skip))
  (.seq (.ops [⟨(some 10), 12, .mv (.t 1), none, []⟩, ⟨(some 11), 13, .mv (.t 2), none, []⟩, ⟨(some 12), 14, .call 75 [((.t 3), 0), ((.t 10), 0), ((.t 11), 0)], none, []⟩, ⟨(some 6), 8, .mv (.t 12), none, []⟩])
  .ret)))
theorem k47 : compCode Try.prog Try.f47.ntmps Try.f47.body.get! = some c47 := by kernel_rfl
theorem r47 : resTmps Try.prog Try.f47.results.toList = some [.tmp 6] := by kernel_rfl
/- laws.FnExactRegKind -/
def c13 : TCode := (.seq (.ops [⟨(some 3), 5, .box 3 (.t 0), none, []⟩, ⟨(some 6), 8, .mv (.c (.b false)), none, []⟩])
  (.seq (.ops [⟨(some 7), 9, .mv (.c (.i .i64 1048576)), none, []⟩])
  (.seq (.ops [⟨(some 11), 13, .load true 3 (.t 3), none, []⟩, ⟨(some 12), 14, .mv (.t 7), none, []⟩, ⟨(some 13), 15, .call 41 [((.t 11), 0), ((.t 12), 0)], none, []⟩, ⟨(some 7), 9, .mv (.t 13), none, []⟩])
  (.seq (.seq (.ops [⟨(some 14), 16, .mv (.t 7), none, []⟩, ⟨(some 15), 17, .bin .lss (.t 14) (.c (.i .i64 0)), none, []⟩])
  (.cond (.t 15)
  (.seq (.ops [⟨(some 6), 8, .mv (.c (.b true)), none, []⟩])
  .ret)
  .skip))
  (.seq (.ops [⟨(some 16), 18, .load true 3 (.t 3), none, []⟩, ⟨(some 17), 19, .call 43 [((.t 16), 0)], none, []⟩, ⟨(some 18), 20, .mv (.t 1), none, []⟩, ⟨(some 19), 21, .mv (.t 2), none, []⟩, ⟨(some 20), 22, .call 46 [((.t 17), 0), ((.t 18), 0), ((.t 19), 0)], none, []⟩, ⟨(some 8), 10, .mv (.t 20), none, []⟩])
  (.seq (.ops [⟨(some 21), 23, .load true 3 (.t 3), none, []⟩, ⟨(some 22), 24, .call 43 [((.t 21), 0)], none, []⟩, ⟨(some 9), 11, .box 3 (.c (.ag [(.sl true 2 []), (.sl true 2 []), (.sl true 2 [])])), none, []⟩, ⟨none, 1006003, .store 3 (.t 9) (.t 22), none, []⟩])
  (.seq (.ops [⟨(some 23), 25, .load true 3 (.t 9), none, []⟩, ⟨(some 24), 26, .mv (.t 1), none, []⟩, ⟨(some 25), 27, .mv (.t 2), none, []⟩, ⟨(some 26), 28, .call 47 [((.t 23), 0), ((.t 24), 0), ((.t 25), 0)], none, []⟩, ⟨(some 10), 12, .mv (.t 26), none, []⟩])
  (.seq (.seq (.ops [⟨(some 27), 29, .mv (.t 10), none, []⟩, ⟨(some 28), 30, .mv (.t 8), none, []⟩, ⟨(some 29), 31, .bin .neq (.t 27) (.t 28), none, []⟩])
  (.cond (.t 29)
  (.seq (.ops [⟨(some 6), 8, .mv (.c (.b false)), none, []⟩])
  .ret)
  .skip))
  (.seq (.seq (.draw [⟨(some 30), 32, .load true 3 (.t 9), none, []⟩, ⟨(some 31), 33, .load true 3 (.t 3), none, []⟩, ⟨(some 32), 34, .call 43 [((.t 31), 0)], none, [0]⟩, ⟨(some 33), 35, .call 45 [((.t 30), 0), ((.t 32), 0)], none, []⟩, ⟨(some 34), 36, .un .not (.t 33), none, []⟩])
  (.cond (.t 34)
  (.seq (.ops [⟨(some 6), 8, .mv (.c (.b false)), none, []⟩])
  .ret)
  .skip))
  (.seq (.ops [⟨(some 6), 8, .mv (.c (.b true)), none, []⟩])
  .ret))))))))))
theorem k13 : compCode Try.prog Try.f13.ntmps Try.f13.body.get! = some c13 := by kernel_rfl
theorem r13 : resTmps Try.prog Try.f13.results.toList = some [.tmp 6] := by kernel_rfl
/- (*impl.Reg).find$1 -/
def c85 : TCode := (.seq (.ops [⟨(some 2), 4, .box 2 (.t 0), none, []⟩, ⟨(some 3), 5, .mv (.c (.b false)), none, []⟩])
  (.seq (.ops [⟨(some 4), 6, .faddr 0 1 (.t 2), none, []⟩, ⟨(some 5), 7, .load false 1 (.t 4), none, []⟩, ⟨(some 6), 8, .load false 1 (.t 1), none, []⟩, ⟨(some 7), 9, .bin .eql (.t 5) (.t 6), none, []⟩, ⟨(some 3), 5, .mv (.t 7), none, []⟩])
  .ret))
theorem k85 : compCode Try.prog Try.f85.ntmps Try.f85.body.get! = some c85 := by kernel_rfl
theorem r85 : resTmps Try.prog Try.f85.results.toList = some [.tmp 3] := by kernel_rfl
/- slices.IndexFunc[[]impl.Decl,impl.Decl] -/
def c84 : TCode := (.seq (.ops [⟨(some 4), 6, .mv (.c (.i .i64 0)), none, []⟩])
  (.seq (.seq (.ops [⟨(some 6), 8, .mv (.t 0), none, []⟩, ⟨(some 7), 9, .len false (.t 6), none, []⟩, ⟨(some 8), 10, .mv (.c (.i .i64 0)), none, []⟩])
  (.block 0 (.loop (.seq (.ops [⟨(some 9), 11, .bin .lss (.t 8) (.t 7), none, []⟩])
  (.seq (.cond (.t 9)
  .skip
  (.exit 0))
  (.seq (.block 1 (.seq (.ops [⟨(some 10), 12, .mv (.t 8), none, []⟩, ⟨(some 5), 7, .mv (.t 10), none, []⟩])
  (.seq (.ops [⟨(some 11), 13, .mv (.t 1), none, []⟩, ⟨(some 12), 14, .mv (.t 0), none, []⟩, ⟨(some 13), 15, .mv (.t 5), none, []⟩, ⟨(some 14), 16, .iaddr 2 (.t 12) (.t 13), none, []⟩, ⟨(some 15), 17, .load true 2 (.t 14), none, []⟩, ⟨(some 16), 18, .callv (.t 11) [((.t 15), 0)], none, []⟩])
  (.cond (.t 16)
  (.seq (.ops [⟨(some 17), 19, .mv (.t 5), none, []⟩, ⟨(some 4), 6, .mv (.t 17), none, []⟩])
  .ret)
  .skip))))
  (.ops [⟨(some 18), 20, .bin .add (.t 8) (.c (.i .i64 1)), none, []⟩, ⟨(some 8), 10, .mv (.t 18), none, []⟩])))))))
  (.seq (.ops [⟨(some 4), 6, .mv (.c (.i .i64 (-1))), none, []⟩])
  .ret)))
theorem k84 : compCode Try.prog Try.f84.ntmps Try.f84.body.get! = some c84 := by kernel_rfl
theorem r84 : resTmps Try.prog Try.f84.results.toList = some [.tmp 4] := by kernel_rfl
/- (*impl.Reg).find -/
def c76 : TCode := (.seq (.ops [⟨(some 5), 7, .box 1 (.t 2), none, []⟩, ⟨(some 6), 8, .mv (.c (.i .i64 0)), none, []⟩])
  (.seq (.ops [⟨(some 7), 9, .mv (.t 0), none, []⟩, ⟨(some 8), 10, .mv (.t 1), none, []⟩, ⟨(some 9), 11, .call 83 [((.t 7), 3), ((.t 8), 0)], none, []⟩, ⟨(some 10), 12, .mkfn 85 [(.t 5)], none, []⟩, ⟨(some 11), 13, .call 84 [((.t 9), 0), ((.t 10), 0)], none, []⟩, ⟨(some 6), 8, .mv (.t 11), none, []⟩])
  .ret))
theorem k76 : compCode Try.prog Try.f76.ntmps Try.f76.body.get! = some c76 := by kernel_rfl
theorem r76 : resTmps Try.prog Try.f76.results.toList = some [.tmp 6] := by kernel_rfl
/- spec.RegFind -/
def c48 : TCode := (.seq (.ops [⟨(some 3), 5, .box 3 (.t 0), none, []⟩, ⟨(some 6), 8, .mv (.c (.i .i64 0)), none, []⟩])
  (.seq (.seq (.ops [⟨(some 9), 11, .load true 3 (.t 3), none, []⟩, ⟨(some 10), 12, .call 42 [((.t 9), 0)], none, []⟩, ⟨(some 11), 13, .un .not (.t 10), none, []⟩])
  (.cond (.t 11)
  (.seq (.ops [⟨(some 6), 8, .mv (.c (.i .i64 (-1))), none, []⟩])
  .ret)
  .skip))
  (.seq (.ops [⟨(some 12), 14, .load true 3 (.t 3), none, []⟩, ⟨(some 13), 15, .mv (.t 1), none, []⟩, ⟨(some 14), 16, .call 74 [((.t 12), 0), ((.t 13), 0)], none, []⟩, ⟨(some 7), 9, .mv (.t 14), none, []⟩])
  (.seq (.seq (.ops [⟨(some 8), 10, .mv (.c (.i .i64 0)), none, []⟩])
  (.block 0 (.loop (.seq (.seq (.ops [⟨(some 15), 17, .mv (.t 8), none, []⟩, ⟨(some 16), 18, .mv (.t 7), none, []⟩, ⟨(some 17), 19, .len false (.t 16), none, []⟩, ⟨(some 18), 20, .bin .lss (.t 15) (.t 17), none, []⟩])
  (.cond (.t 18)
  .skip
  (.exit 0)))
  (.seq (.block 1 (.seq (.ops [⟨(some 21), 23, .mv (.t 7), none, []⟩, ⟨(some 22), 24, .mv (.t 8), none, []⟩, ⟨(some 23), 25, .iaddr 2 (.t 21) (.t 22), none, []⟩, ⟨(some 24), 26, .faddr 0 1 (.t 23), none, []⟩, ⟨(some 25), 27, .load false 1 (.t 24), none, []⟩, ⟨(some 26), 28, .mv (.t 2), none, []⟩, ⟨(some 27), 29, .bin .eql (.t 25) (.t 26), none, []⟩])
  (.cond (.t 27)
  (.seq (.ops [⟨(some 28), 30, .mv (.t 8), none, []⟩, ⟨(some 6), 8, .mv (.t 28), none, []⟩])
  .ret)
  .skip)))
  (.ops [⟨(some 19), 21, .mv (.t 8), none, []⟩, ⟨(some 20), 22, .bin .add (.t 19) (.c (.i .i64 1)), none, []⟩, ⟨(some 8), 10, .mv (.t 20), none, []⟩]))))))
  (.seq (.ops [⟨(some 6), 8, .mv (.c (.i .i64 (-1))), none, []⟩])
  .ret)))))
theorem k48 : compCode Try.prog Try.f48.ntmps Try.f48.body.get! = some c48 := by kernel_rfl
theorem r48 : resTmps Try.prog Try.f48.results.toList = some [.tmp 6] := by kernel_rfl
/- impl.RegFind -/
def c49 : TCode := (.seq (.ops [⟨(some 3), 5, .box 3 (.t 0), none, []⟩, ⟨(some 6), 8, .mv (.c (.i .i64 0)), none, []⟩])
  (.seq (.seq (.ops [⟨(some 7), 9, .load true 3 (.t 3), none, []⟩, ⟨(some 8), 10, .call 44 [((.t 7), 0)], none, []⟩, ⟨(some 9), 11, .un .not (.t 8), none, []⟩])
  (.cond (.t 9)
  (.seq (.ops [⟨(some 6), 8, .mv (.c (.i .i64 (-1))), none, []⟩])
  .ret)
  .skip))
  (.seq (.ops [⟨(some 10), 12, .mv (.t 1), none, []⟩, ⟨(some 11), 13, .mv (.t 2), none, []⟩, ⟨(some 12), 14, .call 76 [((.t 3), 0), ((.t 10), 0), ((.t 11), 0)], none, []⟩, ⟨(some 6), 8, .mv (.t 12), none, []⟩])
  .ret)))
theorem k49 : compCode Try.prog Try.f49.ntmps Try.f49.body.get! = some c49 := by kernel_rfl
theorem r49 : resTmps Try.prog Try.f49.results.toList = some [.tmp 6] := by kernel_rfl
/- laws.FnExactRegFind -/
def c14 : TCode := (.seq (.ops [⟨(some 3), 5, .box 3 (.t 0), none, []⟩, ⟨(some 6), 8, .mv (.c (.b false)), none, []⟩])
  (.seq (.seq (.ops [⟨(some 11), 13, .mv (.t 2), none, []⟩, ⟨(some 12), 14, .len true (.t 11), none, []⟩, ⟨(some 13), 15, .bin .gtr (.t 12) (.c (.i .i64 1048576)), none, []⟩])
  (.cond (.t 13)
  (.seq (.ops [⟨(some 6), 8, .mv (.c (.b true)), none, []⟩])
  .ret)
  .skip))
  (.seq (.ops [⟨(some 7), 9, .mv (.c (.i .i64 1048576)), none, []⟩])
  (.seq (.ops [⟨(some 14), 16, .load true 3 (.t 3), none, []⟩, ⟨(some 15), 17, .mv (.t 7), none, []⟩, ⟨(some 16), 18, .call 41 [((.t 14), 0), ((.t 15), 0)], none, []⟩, ⟨(some 7), 9, .mv (.t 16), none, []⟩])
  (.seq (.seq (.ops [⟨(some 17), 19, .mv (.t 7), none, []⟩, ⟨(some 18), 20, .bin .lss (.t 17) (.c (.i .i64 0)), none, []⟩])
  (.cond (.t 18)
  (.seq (.ops [⟨(some 6), 8, .mv (.c (.b true)), none, []⟩])
  .ret)
  .skip))
  (.seq (.ops [⟨(some 19), 21, .load true 3 (.t 3), none, []⟩, ⟨(some 20), 22, .call 43 [((.t 19), 0)], none, []⟩, ⟨(some 21), 23, .mv (.t 1), none, []⟩, ⟨(some 22), 24, .mv (.t 2), none, []⟩, ⟨(some 23), 25, .call 48 [((.t 20), 0), ((.t 21), 0), ((.t 22), 0)], none, []⟩, ⟨(some 8), 10, .mv (.t 23), none, []⟩])
  (.seq (.ops [⟨(some 24), 26, .load true 3 (.t 3), none, []⟩, ⟨(some 25), 27, .call 43 [((.t 24), 0)], none, []⟩, ⟨(some 9), 11, .box 3 (.c (.ag [(.sl true 2 []), (.sl true 2 []), (.sl true 2 [])])), none, []⟩, ⟨none, 1008003, .store 3 (.t 9) (.t 25), none, []⟩])
  (.seq (.ops [⟨(some 26), 28, .load true 3 (.t 9), none, []⟩, ⟨(some 27), 29, .mv (.t 1), none, []⟩, ⟨(some 28), 30, .mv (.t 2), none, []⟩, ⟨(some 29), 31, .call 49 [((.t 26), 0), ((.t 27), 0), ((.t 28), 0)], none, []⟩, ⟨(some 10), 12, .mv (.t 29), none, []⟩])
  (.seq (.seq (.ops [⟨(some 30), 32, .mv (.t 10), none, []⟩, ⟨(some 31), 33, .mv (.t 8), none, []⟩, ⟨(some 32), 34, .bin .neq (.t 30) (.t 31), none, []⟩])
  (.cond (.t 32)
  (.seq (.ops [⟨(some 6), 8, .mv (.c (.b false)), none, []⟩])
  .ret)
  .skip))
  (.seq (.seq (.draw [⟨(some 33), 35, .load true 3 (.t 9), none, []⟩, ⟨(some 34), 36, .load true 3 (.t 3), none, []⟩, ⟨(some 35), 37, .call 43 [((.t 34), 0)], none, [0]⟩, ⟨(some 36), 38, .call 45 [((.t 33), 0), ((.t 35), 0)], none, []⟩, ⟨(some 37), 39, .un .not (.t 36), none, []⟩])
  (.cond (.t 37)
  (.seq (.ops [⟨(some 6), 8, .mv (.c (.b false)), none, []⟩])
  .ret)
  .skip))
  (.seq (.ops [⟨(some 6), 8, .mv (.c (.b true)), none, []⟩])
  .ret)))))))))))
theorem k14 : compCode Try.prog Try.f14.ntmps Try.f14.body.get! = some c14 := by kernel_rfl
theorem r14 : resTmps Try.prog Try.f14.results.toList = some [.tmp 6] := by kernel_rfl

def sortL (c r e : List (ByteArray × Int)) (s : Int) : List (ByteArray × Int) := if s = 1 then c else if s = 2 then r else if s = 3 then e else []
def sortR (c r e : List (ByteArray × Int)) (s : Int) : TV := if s = 1 then .sl false 2 (c.map dT) else if s = 2 then .sl false 2 (r.map dT) else if s = 3 then .sl false 2 (e.map dT) else .sl true 2 []
theorem sortR_cases (c r e : List (ByteArray × Int)) (s : Int) : (sortR c r e s = .sl true 2 [] ∧ sortL c r e s = []) ∨ sortR c r e s = .sl false 2 ((sortL c r e s).map dT) := by
  unfold sortR sortL
  split
  · exact .inr rfl
  · split
    · exact .inr rfl
    · split
      · exact .inr rfl
      · exact .inl ⟨rfl, rfl⟩
theorem sortL_len {c r e : List (ByteArray × Int)} {k : Nat} (s : Int) (hc : c.length ≤ k) (hr : r.length ≤ k) (he : e.length ≤ k) : (sortL c r e s).length ≤ k := by
  unfold sortL; split
  · exact hc
  · split
    · exact hr
    · split
      · exact he
      · simp
theorem w74 (c r e : List (ByteArray × Int)) (s : Int) : Contract Try.prog true 74 [.ro, .ro] [regR c r e, .i .i64 s] [sortR c r e s] [] := by
  refine mk_contract [] Try.func74 (c := Try.f74.body.get!) (by kernel_rfl) k74 r74 (of_decide_eq_true rfl) fun _ => ?_
  unfold c74; unfold regR sortR; simp
  by_cases h1 : s = 1
  · simp [h1]
  by_cases h2 : s = 2
  · simp [h2]
  by_cases h3 : s = 3
  · simp [h3]
  simp [h1, h2, h3]
theorem w83 (c r e : List (ByteArray × Int)) (s : Int) : Contract Try.prog true 83 [.ro, .ro] [.po false [.sl false 2 (c.map dT), .sl false 2 (r.map dT), .sl false 2 (e.map dT)], .i .i64 s] [sortR c r e s] [] := by
  refine mk_contract [] Try.func83 (c := Try.f83.body.get!) (by kernel_rfl) k83 r83 (of_decide_eq_true rfl) fun _ => ?_
  unfold c83; unfold sortR; simp
  by_cases h1 : s = 1
  · simp [h1]
  by_cases h2 : s = 2
  · simp [h2]
  by_cases h3 : s = 3
  · simp [h3]
  simp [h1, h2, h3]
def kindF (L : List (ByteArray × Int)) (a : Int) : Int := if 0 ≤ a ∧ a ≤ (L.length : Int) - 1 then ((L[a.toNat]?).map (·.2)).getD 0 else 0
theorem w75 (c r e : List (ByteArray × Int)) (s a : Int) (hc : c.length ≤ 2^40) (hr : r.length ≤ 2^40) (he : e.length ≤ 2^40) : Contract Try.prog false 75 [.ro, .ro, .ro] [.po false [.sl false 2 (c.map dT), .sl false 2 (r.map dT), .sl false 2 (e.map dT)], .i .i64 s, .i .i64 a] [.i .i64 (kindF (sortL c r e s) a)] [] := by
  refine mk_contract [] Try.func75 (c := Try.f75.body.get!) (by kernel_rfl) k75 r75 (of_decide_eq_true rfl) fun _ => ?_
  unfold c75; simp
  have hC := w83 c r e s
  have hlen := sortL_len s hc hr he
  refine callW_ms [.ro, .ro] ?_
  simp
  refine callX_of hC (by simp) ?_
  obtain ⟨L, hL⟩ : ∃ L, L = sortL c r e s := ⟨_, rfl⟩
  rcases sortR_cases c r e s with ⟨h1, h2⟩ | h1
  · rw [h1, h2]
    simp
    refine callW_ms [.ro, .ro, .ro] ?_
    simp
    refine callX_of ((w54 a 0 (-1)).f (by omega)) (by simp) ?_
    simp
    simp [kindF]
  · rw [h1]
    rw [← hL] at hlen ⊢
    have hw2 : IntKind.i64.wrap (L.length - 1) = L.length - 1 := wrap_id (by omega) (by omega)
    simp [hw2]
    by_cases hr : 0 ≤ a ∧ a ≤ (L.length : Int) - 1
    · refine callW_ms [.ro, .ro, .ro] ?_
      simp
      refine callX_of ((w54 _ _ _).t hr) (by simp) ?_
      simp
      obtain ⟨z, hz⟩ := get_some (l := L) (j := a.toNat) (by omega)
      simp [hr.1, hz, kindF, hr]
    · refine callW_ms [.ro, .ro, .ro] ?_
      simp
      refine callX_of ((w54 _ _ _).f hr) (by simp) ?_
      simp
      simp [kindF, hr]
theorem w46 (c r e : List (ByteArray × Int)) (s a : Int) (hc : c.length ≤ 2^40) (hr : r.length ≤ 2^40) (he : e.length ≤ 2^40) : Contract Try.prog false 46 [.ro, .ro, .ro] [regR c r e, .i .i64 s, .i .i64 a] [.i .i64 (if RegOkP c r e then kindF (sortL c r e s) a else 0)] [] := by
  refine mk_contract [] Try.func46 (c := Try.f46.body.get!) (by kernel_rfl) k46 r46 (of_decide_eq_true rfl) fun _ => ?_
  unfold c46; unfold regR; simp
  have hC := w74 c r e s
  unfold regR at hC
  have hlen := sortL_len s hc hr he
  refine callW_ms [.ro, .ro] ?_
  simp
  refine callX_of hC (by simp) ?_
  obtain ⟨L, hL⟩ : ∃ L, L = sortL c r e s := ⟨_, rfl⟩
  rcases sortR_cases c r e s with ⟨h1, h2⟩ | h1
  · rw [h1, h2]
    simp
    by_cases hR : RegOkP c r e
    · refine callW_ms [.ro] ?_
      simp [regR]
      refine callX_of ((w42 c r e hc hr he).t hR) (by simp) ?_
      simp
      refine callW_ms [.ro, .ro, .ro] ?_
      simp
      refine callX_of ((w51 a 0 (-1)).f (by omega)) (by simp) ?_
      simp
      simp [kindF]
    · refine callW_ms [.ro] ?_
      simp [regR]
      refine callX_of ((w42 c r e hc hr he).f hR) (by simp) ?_
      simp [hR]
  · rw [h1]
    rw [← hL] at hlen ⊢
    have hw2 : IntKind.i64.wrap (L.length - 1) = L.length - 1 := wrap_id (by omega) (by omega)
    simp [hw2]
    by_cases hR : RegOkP c r e
    · refine callW_ms [.ro] ?_
      simp [regR]
      refine callX_of ((w42 c r e hc hr he).t hR) (by simp) ?_
      simp [hw2]
      by_cases hr : 0 ≤ a ∧ a ≤ (L.length : Int) - 1
      · refine callW_ms [.ro, .ro, .ro] ?_
        simp
        refine callX_of ((w51 _ _ _).t hr) (by simp) ?_
        simp
        obtain ⟨z, hz⟩ := get_some (l := L) (j := a.toNat) (by omega)
        simp [hr.1, hz, kindF, hr, hR]
      · refine callW_ms [.ro, .ro, .ro] ?_
        simp
        refine callX_of ((w51 _ _ _).f hr) (by simp) ?_
        simp [kindF, hr]
    · refine callW_ms [.ro] ?_
      simp [regR]
      refine callX_of ((w42 c r e hc hr he).f hR) (by simp) ?_
      simp [hR]
theorem w47 (c r e : List (ByteArray × Int)) (s a : Int) (hc : c.length ≤ 2^40) (hr : r.length ≤ 2^40) (he : e.length ≤ 2^40) (hs : ∀ l ∈ [c, r, e], ∀ d ∈ l, d.1.size ≤ 2^40) : Contract Try.prog false 47 [.ro, .ro, .ro] [regR c r e, .i .i64 s, .i .i64 a] [.i .i64 (if RegOkP c r e then kindF (sortL c r e s) a else 0)] [] := by
  refine mk_contract [] Try.func47 (c := Try.f47.body.get!) (by kernel_rfl) k47 r47 (of_decide_eq_true rfl) fun _ => ?_
  unfold c47; unfold regR; simp
  by_cases hR : RegOkP c r e
  · refine callW_ms [.ro] ?_
    simp [regR]
    refine callX_of ((w44 c r e hc hr he hs).t hR) (by simp) ?_
    simp
    refine callW_ms [.ro, .ro, .ro] ?_
    simp
    refine callX_of (w75 c r e s a hc hr he) (by simp) ?_
    simp [hR]
  · refine callW_ms [.ro] ?_
    simp [regR]
    refine callX_of ((w44 c r e hc hr he hs).f hR) (by simp) ?_
    simp [hR]
theorem w13 (c r e : List (ByteArray × Int)) (s a : Int) (hc : bndD c) (hr : bndD r) (he : bndD e) : Contract Try.prog false 13 [.ro, .ro, .ro] [regR c r e, .i .i64 s, .i .i64 a] [.b true] [] := by
  refine mk_contract [] Try.func13 (c := Try.f13.body.get!) (by kernel_rfl) k13 r13 (of_decide_eq_true rfl) fun _ => ?_
  unfold c13; unfold regR; simp
  refine callW_ms [.ro, .ro] ?_
  simp [regR]
  refine callX_of (w41 c r e _ hc hr he (by omega) (by omega)) (by simp) ?_
  simp
  intro h
  obtain ⟨-, -, hok⟩ := szRegF_ok (k := 2^20) (by omega) (by omega) (by omega : ¬ szRegF c r e 1048576 < 0)
  obtain ⟨hc2, hr2, he2⟩ := id hok
  have hall := okD_all ⟨okD_mono hok.1 (by omega : 2^20 ≤ 2^40), okD_mono hok.2.1 (by omega), okD_mono hok.2.2 (by omega)⟩
  have := hc2.1
  have := hr2.1
  have := he2.1
  refine callW_ms [.ro] ?_
  simp [regR]
  refine callX_of (w43 c r e (by omega) (by omega) (by omega)) (by simp) ?_
  simp [regO]
  refine callW_ms [.ro, .ro, .ro] ?_
  simp [regR]
  refine callX_of (w46 c r e s a (by omega) (by omega) (by omega)) (by simp) ?_
  simp
  refine callW_ms [.ro] ?_
  simp [regR]
  refine callX_of (w43 c r e (by omega) (by omega) (by omega)) (by simp) ?_
  simp [regO]
  refine callW_ms [.ro, .ro, .ro] ?_
  simp [regR]
  refine callX_of (w47 c r e s a (by omega) (by omega) (by omega) hall) (by simp) ?_
  simp
  refine callW_ms [.ro] ?_
  simp [regR]
  refine callX_of (w43 c r e (by omega) (by omega) (by omega)) (by simp) ?_
  simp [regO]
  refine callW_ms [.ro, .ro] ?_
  simp [regR]
  refine callX_of (w45 c r e c r e (by omega) (by omega) (by omega) (by omega) (by omega) (by omega)) (by simp) ?_
  simp

def nameIs (x : ByteArray) (d : ByteArray × Int) : Bool := decide (d.1 = x)
theorem w85 (d : ByteArray × Int) (x : ByteArray) : Contract Try.prog false 85 [.ro, .ro] [declT d, .po false [.s x]] [.b (nameIs x d)] [] := by
  refine mk_contract [] Try.func85 (c := Try.f85.body.get!) (by kernel_rfl) k85 r85 (of_decide_eq_true rfl) fun _ => ?_
  unfold c85; unfold declT; simp [nameIs]
theorem w84 (L : List (ByteArray × Int)) (u : TV) (x : ByteArray) (hu : u = .sl true 2 [] ∧ L = [] ∨ u = .sl false 2 (L.map dT)) (hL : L.length ≤ 2^40) : Contract Try.prog false 84 [.ro, .ro] [u, .fn 85 [.po false [.s x]]] [.i .i64 (idxP (nameIs x) L)] [] := by
  refine mk_contract [] Try.func84 (c := Try.f84.body.get!) (by kernel_rfl) k84 r84 (of_decide_eq_true rfl) fun _ => ?_
  unfold c84; simp
  rcases hu with ⟨rfl, rfl⟩ | rfl
  · simp
    refine twp_for 0 (fun j s => s.t 7 = .i .i64 0 ∧ s.t 8 = .i .i64 0 ∧ s.H = lk [(1, [])]) [] (by simp) ?_ ?_
    · simp
    · rintro j s hj ⟨q7, q8, qH⟩
      rw [nf_of qH]
      simp [q7, q8]
      exact (idxP_none (by simp)).symm
  · simp
    refine twp_for L.length (fun j s => s.t 0 = .sl false 2 (L.map dT) ∧ s.t 1 = .fn 85 [.po false [.s x]] ∧ s.t 7 = .i .i64 L.length ∧ s.t 8 = .i .i64 j ∧ (∀ y ∈ L.take j, nameIs x y = false) ∧ s.H = lk [(1, [])]) [] (by simp) ?_ ?_
    · simp
    · rintro j s hj ⟨q0, q1, q7, q8, hn, qH⟩
      rw [nf_of qH]
      simp [q0, q1, q7, q8]
      refine ⟨fun hlt => ?_, fun hge => ?_⟩
      · have hw : IntKind.i64.wrap (j + 1) = j + 1 := wrap_id (by omega) (by omega)
        obtain ⟨y, hy⟩ := get_some hlt
        simp [hy, hw, q0, q1, q7, q8]
        refine ⟨by kernel_rfl, ?_⟩
        cases hb : nameIs x y with
        | true =>
          have hC := w85 y x
          rw [hb] at hC
          refine callW_ms [.ro, .ro] ?_
          simp
          refine callX_of hC (by simp [declT]) ?_
          simp [hw, q0, q1, q7, q8]
          exact (idxP_at hy hb hn).symm
        | false =>
          have hC := w85 y x
          rw [hb] at hC
          refine callW_ms [.ro, .ro] ?_
          simp
          refine callX_of hC (by simp [declT]) ?_
          simp [hw, q0, q1, q7, q8]
          refine ⟨hlt, fun a b hab => ?_⟩
          rw [take_snoc hy, List.mem_append, List.mem_singleton] at hab
          rcases hab with hab | rfl
          · exact hn _ hab
          · exact hb
      · obtain rfl : j = L.length := by omega
        rw [List.take_of_length_le (Nat.le_refl _)] at hn
        exact (idxP_none hn).symm
theorem w76 (c r e : List (ByteArray × Int)) (s : Int) (x : ByteArray) (hc : c.length ≤ 2^40) (hr : r.length ≤ 2^40) (he : e.length ≤ 2^40) : Contract Try.prog false 76 [.ro, .ro, .ro] [.po false [.sl false 2 (c.map dT), .sl false 2 (r.map dT), .sl false 2 (e.map dT)], .i .i64 s, .s x] [.i .i64 (idxP (nameIs x) (sortL c r e s))] [] := by
  refine mk_contract [] Try.func76 (c := Try.f76.body.get!) (by kernel_rfl) k76 r76 (of_decide_eq_true rfl) fun _ => ?_
  unfold c76; simp
  have hC := w83 c r e s
  have hlen := sortL_len s hc hr he
  refine callW_ms [.ro, .ro] ?_
  simp
  refine callX_of hC (by simp) ?_
  have hcs := sortR_cases c r e s
  have hI := w84 (sortL c r e s) (sortR c r e s) x hcs hlen
  rcases hcs with ⟨h1, h2⟩ | h1
  · rw [h1, h2]
    have hI := w84 [] (.sl false 2 []) x (.inr rfl) (by simp)
    simp
    refine callW_ms [.ro, .ro] ?_
    simp
    refine callX_of hI (by simp) ?_
    simp
  · rw [h1] at hI ⊢
    simp
    refine callW_ms [.ro, .ro] ?_
    simp
    refine callX_of hI (by simp) ?_
    simp
theorem w48 (c r e : List (ByteArray × Int)) (s : Int) (x : ByteArray) (hc : c.length ≤ 2^40) (hr : r.length ≤ 2^40) (he : e.length ≤ 2^40) : Contract Try.prog false 48 [.ro, .ro, .ro] [regR c r e, .i .i64 s, .s x] [.i .i64 (if RegOkP c r e then idxP (nameIs x) (sortL c r e s) else -1)] [] := by
  refine mk_contract [] Try.func48 (c := Try.f48.body.get!) (by kernel_rfl) k48 r48 (of_decide_eq_true rfl) fun _ => ?_
  unfold c48; unfold regR; simp
  by_cases hR : RegOkP c r e
  · refine callW_ms [.ro] ?_
    simp [regR]
    refine callX_of ((w42 c r e hc hr he).t hR) (by simp) ?_
    simp
    have hC := w74 c r e s
    unfold regR at hC
    have hlen := sortL_len s hc hr he
    refine callW_ms [.ro, .ro] ?_
    simp
    refine callX_of hC (by simp) ?_
    rcases sortR_cases c r e s with ⟨h1, h2⟩ | h1
    · rw [h1, h2]
      simp
      refine twp_for 0 (fun j s => s.t 7 = .rf [(16, 0)] 0 0 ∧ s.t 8 = .i .i64 0 ∧ s.H = lk [(1, []), (5, [.po true [.sl false 2 (c.map dT), .sl false 2 (r.map dT), .sl false 2 (e.map dT)]]), (16, [.sl true 2 []])]) [] (by simp) ?_ ?_
      · simp
      · rintro j s hj ⟨q7, q8, qH⟩
        rw [nf_of qH]
        simp [q7, q8]
        simp [hR]
        exact (idxP_none (by simp)).symm
    · rw [h1]
      obtain ⟨L, hL⟩ : ∃ L, L = sortL c r e s := ⟨_, rfl⟩
      rw [← hL] at hlen ⊢
      simp
      refine twp_for L.length (fun j s => s.t 2 = .s x ∧ s.t 7 = .sl false 2 (L.map dT) ∧ s.t 8 = .i .i64 j ∧ (∀ y ∈ L.take j, nameIs x y = false) ∧ s.H = lk [(1, []), (5, [.po true [.sl false 2 (c.map dT), .sl false 2 (r.map dT), .sl false 2 (e.map dT)]])]) [] (by simp) ?_ ?_
      · simp
      · rintro j s hj ⟨q2, q7, q8, hn, qH⟩
        rw [nf_of qH]
        simp [q2, q7, q8]
        refine ⟨fun hlt => ?_, fun hge => ?_⟩
        · have hw : IntKind.i64.wrap (j + 1) = j + 1 := wrap_id (by omega) (by omega)
          obtain ⟨y, hy⟩ := get_some hlt
          simp [hy, hw, q2, q7, q8]
          refine ⟨fun h => ?_, fun h => ⟨hlt, fun a b hab => ?_⟩⟩
          · simp [hR]; exact (idxP_at hy (by simp [nameIs, h]) hn).symm
          · rw [take_snoc hy, List.mem_append, List.mem_singleton] at hab
            rcases hab with hab | rfl
            · exact hn _ hab
            · simp [nameIs]; exact h
        · obtain rfl : j = L.length := by omega
          rw [List.take_of_length_le (Nat.le_refl _)] at hn
          simp [hR]; exact (idxP_none hn).symm
  · refine callW_ms [.ro] ?_
    simp [regR]
    refine callX_of ((w42 c r e hc hr he).f hR) (by simp) ?_
    simp [hR]
theorem w49 (c r e : List (ByteArray × Int)) (s : Int) (x : ByteArray) (hc : c.length ≤ 2^40) (hr : r.length ≤ 2^40) (he : e.length ≤ 2^40) (hs : ∀ l ∈ [c, r, e], ∀ d ∈ l, d.1.size ≤ 2^40) : Contract Try.prog false 49 [.ro, .ro, .ro] [regR c r e, .i .i64 s, .s x] [.i .i64 (if RegOkP c r e then idxP (nameIs x) (sortL c r e s) else -1)] [] := by
  refine mk_contract [] Try.func49 (c := Try.f49.body.get!) (by kernel_rfl) k49 r49 (of_decide_eq_true rfl) fun _ => ?_
  unfold c49; unfold regR; simp
  by_cases hR : RegOkP c r e
  · refine callW_ms [.ro] ?_
    simp [regR]
    refine callX_of ((w44 c r e hc hr he hs).t hR) (by simp) ?_
    simp
    refine callW_ms [.ro, .ro, .ro] ?_
    simp
    refine callX_of (w76 c r e s x hc hr he) (by simp) ?_
    simp [hR]
  · refine callW_ms [.ro] ?_
    simp [regR]
    refine callX_of ((w44 c r e hc hr he hs).f hR) (by simp) ?_
    simp [hR]
theorem w14 (c r e : List (ByteArray × Int)) (s : Int) (x : ByteArray) (hc : bndD c) (hr : bndD r) (he : bndD e) : Contract Try.prog false 14 [.ro, .ro, .ro] [regR c r e, .i .i64 s, .s x] [.b true] [] := by
  refine mk_contract [] Try.func14 (c := Try.f14.body.get!) (by kernel_rfl) k14 r14 (of_decide_eq_true rfl) fun _ => ?_
  unfold c14; unfold regR; simp
  intro hx
  refine callW_ms [.ro, .ro] ?_
  simp [regR]
  refine callX_of (w41 c r e _ hc hr he (by omega) (by omega)) (by simp) ?_
  simp
  intro h
  obtain ⟨-, -, hok⟩ := szRegF_ok (k := 2^20) (by omega) (by omega) (by omega : ¬ szRegF c r e 1048576 < 0)
  obtain ⟨hc2, hr2, he2⟩ := id hok
  have hall := okD_all ⟨okD_mono hok.1 (by omega : 2^20 ≤ 2^40), okD_mono hok.2.1 (by omega), okD_mono hok.2.2 (by omega)⟩
  have := hc2.1
  have := hr2.1
  have := he2.1
  refine callW_ms [.ro] ?_
  simp [regR]
  refine callX_of (w43 c r e (by omega) (by omega) (by omega)) (by simp) ?_
  simp [regO]
  refine callW_ms [.ro, .ro, .ro] ?_
  simp [regR]
  refine callX_of (w48 c r e s x (by omega) (by omega) (by omega)) (by simp) ?_
  simp
  refine callW_ms [.ro] ?_
  simp [regR]
  refine callX_of (w43 c r e (by omega) (by omega) (by omega)) (by simp) ?_
  simp [regO]
  refine callW_ms [.ro, .ro, .ro] ?_
  simp [regR]
  refine callX_of (w49 c r e s x (by omega) (by omega) (by omega) hall) (by simp) ?_
  simp
  refine callW_ms [.ro] ?_
  simp [regR]
  refine callX_of (w43 c r e (by omega) (by omega) (by omega)) (by simp) ?_
  simp [regO]
  refine callW_ms [.ro, .ro] ?_
  simp [regR]
  refine callX_of (w45 c r e c r e (by omega) (by omega) (by omega) (by omega) (by omega) (by omega)) (by simp) ?_
  simp
end Go.Proofs.YtlddgmpaaobpoaaT
