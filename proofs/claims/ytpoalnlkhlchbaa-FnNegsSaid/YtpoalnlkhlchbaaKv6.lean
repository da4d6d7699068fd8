/- Values as texts. -/
import Derived.Test.YtpoalnlkhlchbaaKv2
import Derived.Test.YtpoalnlkhlchbaaKf1
namespace Go.Proofs.YtpoalnlkhlchbaaT
set_option linter.unusedVariables false
set_option linter.unusedSimpArgs false
open Go

/- spec.l1Digits -/
def c48 : TCode := (.seq (.ops [⟨(some 2), 4, .mv (.c (.s ⟨#[]⟩)), none, []⟩])
  (.seq (.seq (.ops [⟨(some 6), 8, .mv (.t 0), none, []⟩, ⟨(some 7), 9, .bin .eql (.t 6) (.c (.i .i64 0)), none, []⟩])
  (.cond (.t 7)
  (.seq (.ops [⟨(some 2), 4, .mv (.c (.s ⟨#[48]⟩)), none, []⟩])
  .ret)
  .skip))
  (.seq (.ops [⟨(some 3), 5, .mv (.c (.s ⟨#[]⟩)), none, []⟩])
  (.seq (.ops [⟨(some 8), 10, .mv (.t 0), none, []⟩, ⟨(some 9), 11, .bin .lss (.t 8) (.c (.i .i64 0)), none, []⟩, ⟨(some 4), 6, .mv (.t 9), none, []⟩])
  (.seq (.block 0 (.loop (.seq (.seq (.ops [⟨(some 10), 12, .mv (.t 0), none, []⟩, ⟨(some 11), 13, .bin .neq (.t 10) (.c (.i .i64 0)), none, []⟩])
  (.cond (.t 11)
  .skip
  (.exit 0)))
  (.block 1 (.seq (.ops [⟨(some 12), 14, .mv (.t 0), none, []⟩, ⟨(some 13), 15, .bin .rem (.t 12) (.c (.i .i64 10)), none, []⟩, ⟨(some 5), 7, .mv (.t 13), none, []⟩])
  (.seq (.seq (.ops [⟨(some 14), 16, .mv (.t 5), none, []⟩, ⟨(some 15), 17, .bin .lss (.t 14) (.c (.i .i64 0)), none, []⟩])
  (.cond (.t 15)
  (.ops [⟨(some 16), 18, .mv (.t 5), none, []⟩, ⟨(some 17), 19, .un .neg (.t 16), none, []⟩, ⟨(some 5), 7, .mv (.t 17), none, []⟩])
  .skip))
  (.seq (.ops [⟨(some 18), 20, .mv (.t 5), none, []⟩, ⟨(some 19), 21, .bin .add (.c (.i .i64 48)) (.t 18), none, []⟩, ⟨(some 20), 22, .toInt .u8 (.t 19), none, []⟩, ⟨(some 21), 23, .bslice 1 1 [(.i .u8 0)] [(0, (.t 20))], none, []⟩, ⟨(some 22), 24, .toS (.t 21), none, []⟩, ⟨(some 23), 25, .mv (.t 3), none, []⟩, ⟨(some 24), 26, .bin .add (.t 22) (.t 23), none, []⟩, ⟨(some 3), 5, .mv (.t 24), none, []⟩])
  (.ops [⟨(some 25), 27, .mv (.t 0), none, []⟩, ⟨(some 26), 28, .bin .quo (.t 25) (.c (.i .i64 10)), none, []⟩, ⟨(some 0), 2, .mv (.t 26), none, []⟩]))))))))
  (.seq (.seq (.ops [⟨(some 27), 29, .mv (.t 4), none, []⟩])
  (.cond (.t 27)
  (.seq (.ops [⟨(some 28), 30, .mv (.t 3), none, []⟩, ⟨(some 29), 31, .bin .add (.c (.s ⟨#[45]⟩)) (.t 28), none, []⟩, ⟨(some 2), 4, .mv (.t 29), none, []⟩])
  .ret)
  .skip))
  (.seq (.ops [⟨(some 30), 32, .mv (.t 3), none, []⟩, ⟨(some 2), 4, .mv (.t 30), none, []⟩])
  .ret)))))))
theorem k48 : compCode Try.prog Try.f48.ntmps Try.f48.body.get! = some c48 := by kernel_rfl
theorem r48 : resTmps Try.prog Try.f48.results.toList = some [.tmp 2] := by kernel_rfl
/- impl.digits -/
def c50 : TCode := (.seq (.ops [⟨(some 2), 4, .mv (.c (.s ⟨#[]⟩)), none, []⟩])
  (.seq (.ops [⟨(some 3), 5, .mv (.c (.s ⟨#[]⟩)), none, []⟩])
  (.seq (.ops [⟨(some 6), 8, .mv (.t 0), none, []⟩, ⟨(some 4), 6, .mv (.t 6), none, []⟩])
  (.seq (.block 0 (.loop (.block 1 (.seq (.ops [⟨(some 7), 9, .mv (.t 4), none, []⟩, ⟨(some 8), 10, .bin .rem (.t 7) (.c (.i .i64 10)), none, []⟩, ⟨(some 5), 7, .mv (.t 8), none, []⟩])
  (.seq (.seq (.ops [⟨(some 9), 11, .mv (.t 5), none, []⟩, ⟨(some 10), 12, .bin .lss (.t 9) (.c (.i .i64 0)), none, []⟩])
  (.cond (.t 10)
  (.ops [⟨(some 11), 13, .mv (.t 5), none, []⟩, ⟨(some 12), 14, .un .neg (.t 11), none, []⟩, ⟨(some 5), 7, .mv (.t 12), none, []⟩])
  .skip))
  (.seq (.ops [⟨(some 13), 15, .mv (.t 5), none, []⟩, ⟨(some 14), 16, .bin .add (.c (.i .i64 48)) (.t 13), none, []⟩, ⟨(some 15), 17, .toInt .u8 (.t 14), none, []⟩, ⟨(some 16), 18, .bslice 1 1 [(.i .u8 0)] [(0, (.t 15))], none, []⟩, ⟨(some 17), 19, .toS (.t 16), none, []⟩, ⟨(some 18), 20, .mv (.t 3), none, []⟩, ⟨(some 19), 21, .bin .add (.t 17) (.t 18), none, []⟩, ⟨(some 3), 5, .mv (.t 19), none, []⟩])
  (.seq (.ops [⟨(some 20), 22, .mv (.t 4), none, []⟩, ⟨(some 21), 23, .bin .quo (.t 20) (.c (.i .i64 10)), none, []⟩, ⟨(some 4), 6, .mv (.t 21), none, []⟩])
  (.seq (.ops [⟨(some 22), 24, .mv (.t 4), none, []⟩, ⟨(some 23), 25, .bin .eql (.t 22) (.c (.i .i64 0)), none, []⟩])
  (.cond (.t 23)
  (.exit 0)
  .skip)))))))))
  (.seq (.seq (.ops [⟨(some 24), 26, .mv (.t 0), none, []⟩, ⟨(some 25), 27, .bin .lss (.t 24) (.c (.i .i64 0)), none, []⟩])
  (.cond (.t 25)
  (.ops [⟨(some 26), 28, .mv (.t 3), none, []⟩, ⟨(some 27), 29, .bin .add (.c (.s ⟨#[45]⟩)) (.t 26), none, []⟩, ⟨(some 3), 5, .mv (.t 27), none, []⟩])
  .skip))
  (.seq (.ops [⟨(some 28), 30, .mv (.t 3), none, []⟩, ⟨(some 2), 4, .mv (.t 28), none, []⟩])
  .ret))))))
theorem k50 : compCode Try.prog Try.f50.ntmps Try.f50.body.get! = some c50 := by kernel_rfl
theorem r50 : resTmps Try.prog Try.f50.results.toList = some [.tmp 2] := by kernel_rfl
/- spec.l1RealText -/
def c49 : TCode := (.seq (.ops [⟨(some 2), 4, .mv (.c (.s ⟨#[]⟩)), none, []⟩])
  (.seq (.ops [⟨(some 3), 5, .mv (.c (.f 4787326403894837248)), none, []⟩])
  (.seq (.block 0 (.seq (.ops [⟨(some 5), 7, .mv (.t 0), none, []⟩, ⟨(some 6), 8, .mv (.t 0), none, []⟩, ⟨(some 7), 9, .bin .neq (.t 5) (.t 6), none, []⟩, ⟨(some 4), 6, .mv (.t 7), none, []⟩])
  (.cond (.t 4)
  (.seq (.ops [⟨(some 2), 4, .mv (.c (.s ⟨#[110, 97, 110]⟩)), none, []⟩])
  .ret)
  (.seq (.ops [⟨(some 9), 11, .mv (.t 0), none, []⟩, ⟨(some 10), 12, .mv (.t 3), none, []⟩, ⟨(some 11), 13, .bin .geq (.t 9) (.t 10), none, []⟩, ⟨(some 8), 10, .mv (.t 11), none, []⟩])
  (.cond (.t 8)
  (.seq (.ops [⟨(some 2), 4, .mv (.c (.s ⟨#[98, 105, 103]⟩)), none, []⟩])
  .ret)
  (.seq (.ops [⟨(some 13), 15, .mv (.t 0), none, []⟩, ⟨(some 14), 16, .mv (.t 3), none, []⟩, ⟨(some 15), 17, .un .neg (.t 14), none, []⟩, ⟨(some 16), 18, .bin .leq (.t 13) (.t 15), none, []⟩, ⟨(some 12), 14, .mv (.t 16), none, []⟩])
  (.cond (.t 12)
  (.seq (.ops [⟨(some 2), 4, .mv (.c (.s ⟨#[45, 98, 105, 103]⟩)), none, []⟩])
  .ret)
  .skip)))))))
  (.seq (.ops [⟨(some 17), 19, .mv (.t 0), none, []⟩, ⟨(some 18), 20, .bin .mul (.t 17) (.c (.f 4652218415073722368)), none, []⟩, ⟨(some 19), 21, .toInt .i64 (.t 18), none, []⟩, ⟨(some 20), 22, .call 48 [((.t 19), 0)], none, []⟩, ⟨(some 21), 23, .bin .add (.t 20) (.c (.s ⟨#[47, 49, 48, 50, 52]⟩)), none, []⟩, ⟨(some 2), 4, .mv (.t 21), none, []⟩])
  .ret))))
theorem k49 : compCode Try.prog Try.f49.ntmps Try.f49.body.get! = some c49 := by kernel_rfl
theorem r49 : resTmps Try.prog Try.f49.results.toList = some [.tmp 2] := by kernel_rfl
/- impl.realText -/
def c51 : TCode := (.seq (.ops [⟨(some 2), 4, .mv (.c (.s ⟨#[]⟩)), none, []⟩])
  (.seq (.block 0 (.seq (.ops [⟨(some 4), 6, .mv (.t 0), none, []⟩, ⟨(some 5), 7, .mv (.t 0), none, []⟩, ⟨(some 6), 8, .bin .neq (.t 4) (.t 5), none, []⟩, ⟨(some 3), 5, .mv (.t 6), none, []⟩])
  (.cond (.t 3)
  (.seq (.ops [⟨(some 2), 4, .mv (.c (.s ⟨#[110, 97, 110]⟩)), none, []⟩])
  .ret)
  (.seq (.ops [⟨(some 8), 10, .mv (.t 0), none, []⟩, ⟨(some 9), 11, .bin .geq (.t 8) (.c (.f 4787326403894837248)), none, []⟩, ⟨(some 7), 9, .mv (.t 9), none, []⟩])
  (.cond (.t 7)
  (.seq (.ops [⟨(some 2), 4, .mv (.c (.s ⟨#[98, 105, 103]⟩)), none, []⟩])
  .ret)
  (.seq (.ops [⟨(some 11), 13, .mv (.t 0), none, []⟩, ⟨(some 12), 14, .bin .leq (.t 11) (.c (.f 14010698440749613056)), none, []⟩, ⟨(some 10), 12, .mv (.t 12), none, []⟩])
  (.cond (.t 10)
  (.seq (.ops [⟨(some 2), 4, .mv (.c (.s ⟨#[45, 98, 105, 103]⟩)), none, []⟩])
  .ret)
  .skip)))))))
  (.seq (.ops [⟨(some 13), 15, .mv (.t 0), none, []⟩, ⟨(some 14), 16, .bin .mul (.c (.f 4652218415073722368)) (.t 13), none, []⟩, ⟨(some 15), 17, .toInt .i64 (.t 14), none, []⟩, ⟨(some 16), 18, .call 50 [((.t 15), 0)], none, []⟩, ⟨(some 17), 19, .bin .add (.t 16) (.c (.s ⟨#[47, 49, 48, 50, 52]⟩)), none, []⟩, ⟨(some 2), 4, .mv (.t 17), none, []⟩])
  .ret)))
theorem k51 : compCode Try.prog Try.f51.ntmps Try.f51.body.get! = some c51 := by kernel_rfl
theorem r51 : resTmps Try.prog Try.f51.results.toList = some [.tmp 2] := by kernel_rfl
/- spec.ValText -/
def c25 : TCode := (.seq (.ops [⟨(some 1), 3, .box 4 (.t 0), none, []⟩, ⟨(some 2), 4, .mv (.c (.s ⟨#[]⟩)), none, []⟩])
  (.seq (.seq (.ops [⟨(some 3), 5, .load true 4 (.t 1), none, []⟩, ⟨(some 4), 6, .call 18 [((.t 3), 0)], none, []⟩, ⟨(some 5), 7, .un .not (.t 4), none, []⟩])
  (.cond (.t 5)
  (.seq (.ops [⟨(some 2), 4, .mv (.c (.s ⟨#[63]⟩)), none, []⟩])
  .ret)
  .skip))
  (.seq (.seq (.ops [⟨(some 6), 8, .faddr 0 1 (.t 1), none, []⟩, ⟨(some 7), 9, .load false 1 (.t 6), none, []⟩])
  (.block 0 (.seq (.ops [⟨(some 9), 11, .bin .eql (.t 7) (.c (.i .i64 1)), none, []⟩, ⟨(some 8), 10, .mv (.t 9), none, []⟩])
  (.cond (.t 8)
  (.seq (.ops [⟨(some 10), 12, .faddr 1 1 (.t 1), none, []⟩, ⟨(some 11), 13, .load false 1 (.t 10), none, []⟩, ⟨(some 12), 14, .call 48 [((.t 11), 0)], none, []⟩, ⟨(some 2), 4, .mv (.t 12), none, []⟩])
  .ret)
  (.seq (.ops [⟨(some 14), 16, .bin .eql (.t 7) (.c (.i .i64 2)), none, []⟩, ⟨(some 13), 15, .mv (.t 14), none, []⟩])
  (.cond (.t 13)
  (.seq (.ops [⟨(some 15), 17, .faddr 2 1 (.t 1), none, []⟩, ⟨(some 16), 18, .load false 1 (.t 15), none, []⟩, ⟨(some 17), 19, .call 49 [((.t 16), 0)], none, []⟩, ⟨(some 2), 4, .mv (.t 17), none, []⟩])
  .ret)
  (.seq (.ops [⟨(some 19), 21, .bin .eql (.t 7) (.c (.i .i64 3)), none, []⟩, ⟨(some 18), 20, .mv (.t 19), none, []⟩])
  (.cond (.t 18)
  (.seq (.draw [⟨(some 20), 22, .faddr 2 1 (.t 1), none, []⟩, ⟨(some 21), 23, .load false 1 (.t 20), none, []⟩, ⟨(some 22), 24, .call 49 [((.t 21), 0)], none, []⟩, ⟨(some 23), 25, .bin .add (.c (.s ⟨#[40]⟩)) (.t 22), none, []⟩, ⟨(some 24), 26, .bin .add (.t 23) (.c (.s ⟨#[32]⟩)), none, []⟩, ⟨(some 25), 27, .faddr 3 1 (.t 1), none, [2]⟩, ⟨(some 26), 28, .load false 1 (.t 25), none, [2]⟩, ⟨(some 27), 29, .call 49 [((.t 26), 0)], none, [3, 4]⟩, ⟨(some 28), 30, .bin .add (.t 24) (.t 27), none, []⟩, ⟨(some 29), 31, .bin .add (.t 28) (.c (.s ⟨#[41]⟩)), none, []⟩, ⟨(some 2), 4, .mv (.t 29), none, []⟩])
  .ret)
  .skip))))))))
  (.seq (.seq (.ops [⟨(some 30), 32, .faddr 1 1 (.t 1), none, []⟩, ⟨(some 31), 33, .load false 1 (.t 30), none, []⟩, ⟨(some 32), 34, .bin .eql (.t 31) (.c (.i .i64 1)), none, []⟩])
  (.cond (.t 32)
  (.seq (.ops [⟨(some 2), 4, .mv (.c (.s ⟨#[121, 101, 115]⟩)), none, []⟩])
  .ret)
  .skip))
  (.seq (.ops [⟨(some 2), 4, .mv (.c (.s ⟨#[110, 111]⟩)), none, []⟩])
  .ret)))))
theorem k25 : compCode Try.prog Try.f25.ntmps Try.f25.body.get! = some c25 := by kernel_rfl
theorem r25 : resTmps Try.prog Try.f25.results.toList = some [.tmp 2] := by kernel_rfl
/- impl.ValText -/
def c26 : TCode := (.seq (.ops [⟨(some 1), 3, .box 4 (.t 0), none, []⟩, ⟨(some 2), 4, .mv (.c (.s ⟨#[]⟩)), none, []⟩])
  (.seq (.seq (.ops [⟨(some 3), 5, .load true 4 (.t 1), none, []⟩, ⟨(some 4), 6, .call 19 [((.t 3), 0)], none, []⟩, ⟨(some 5), 7, .un .not (.t 4), none, []⟩])
  (.cond (.t 5)
  (.seq (.ops [⟨(some 2), 4, .mv (.c (.s ⟨#[63]⟩)), none, []⟩])
  .ret)
  .skip))
  (.seq (.seq (.ops [⟨(some 6), 8, .faddr 0 1 (.t 1), none, []⟩, ⟨(some 7), 9, .load false 1 (.t 6), none, []⟩])
  (.block 0 (.seq (.ops [⟨(some 9), 11, .bin .eql (.t 7) (.c (.i .i64 1)), none, []⟩, ⟨(some 8), 10, .mv (.t 9), none, []⟩])
  (.cond (.t 8)
  (.seq (.ops [⟨(some 10), 12, .faddr 1 1 (.t 1), none, []⟩, ⟨(some 11), 13, .load false 1 (.t 10), none, []⟩, ⟨(some 12), 14, .call 50 [((.t 11), 0)], none, []⟩, ⟨(some 2), 4, .mv (.t 12), none, []⟩])
  .ret)
  (.seq (.ops [⟨(some 14), 16, .bin .eql (.t 7) (.c (.i .i64 2)), none, []⟩, ⟨(some 13), 15, .mv (.t 14), none, []⟩])
  (.cond (.t 13)
  (.seq (.ops [⟨(some 15), 17, .faddr 2 1 (.t 1), none, []⟩, ⟨(some 16), 18, .load false 1 (.t 15), none, []⟩, ⟨(some 17), 19, .call 51 [((.t 16), 0)], none, []⟩, ⟨(some 2), 4, .mv (.t 17), none, []⟩])
  .ret)
  (.seq (.ops [⟨(some 19), 21, .bin .eql (.t 7) (.c (.i .i64 3)), none, []⟩, ⟨(some 18), 20, .mv (.t 19), none, []⟩])
  (.cond (.t 18)
  (.seq (.draw [⟨(some 20), 22, .faddr 2 1 (.t 1), none, []⟩, ⟨(some 21), 23, .load false 1 (.t 20), none, []⟩, ⟨(some 22), 24, .call 51 [((.t 21), 0)], none, []⟩, ⟨(some 23), 25, .bin .add (.c (.s ⟨#[40]⟩)) (.t 22), none, []⟩, ⟨(some 24), 26, .bin .add (.t 23) (.c (.s ⟨#[32]⟩)), none, []⟩, ⟨(some 25), 27, .faddr 3 1 (.t 1), none, [2]⟩, ⟨(some 26), 28, .load false 1 (.t 25), none, [2]⟩, ⟨(some 27), 29, .call 51 [((.t 26), 0)], none, [3, 4]⟩, ⟨(some 28), 30, .bin .add (.t 24) (.t 27), none, []⟩, ⟨(some 29), 31, .bin .add (.t 28) (.c (.s ⟨#[41]⟩)), none, []⟩, ⟨(some 2), 4, .mv (.t 29), none, []⟩])
  .ret)
  .skip))))))))
  (.seq (.ops [⟨(some 30), 32, .bslice 1 2 [(.s ⟨#[]⟩)] [(0, (.c (.s ⟨#[110, 111]⟩))), (1, (.c (.s ⟨#[121, 101, 115]⟩)))], none, []⟩, ⟨(some 31), 33, .faddr 1 1 (.t 1), none, []⟩, ⟨(some 32), 34, .load false 1 (.t 31), none, []⟩, ⟨(some 33), 35, .iaddr 1 (.t 30) (.t 32), none, []⟩, ⟨(some 34), 36, .load false 1 (.t 33), none, []⟩, ⟨(some 2), 4, .mv (.t 34), none, []⟩])
  .ret))))
theorem k26 : compCode Try.prog Try.f26.ntmps Try.f26.body.get! = some c26 := by kernel_rfl
theorem r26 : resTmps Try.prog Try.f26.results.toList = some [.tmp 2] := by kernel_rfl
/- laws.FnExactValText -/
def c7 : TCode := (.seq (.ops [⟨(some 1), 3, .box 4 (.t 0), none, []⟩, ⟨(some 2), 4, .mv (.c (.b false)), none, []⟩])
  (.seq (.ops [⟨(some 5), 7, .load true 4 (.t 1), none, []⟩, ⟨(some 6), 8, .call 16 [((.t 5), 0)], none, []⟩, ⟨(some 7), 9, .call 25 [((.t 6), 0)], none, []⟩, ⟨(some 3), 5, .mv (.t 7), none, []⟩])
  (.seq (.ops [⟨(some 8), 10, .load true 4 (.t 1), none, []⟩, ⟨(some 9), 11, .call 16 [((.t 8), 0)], none, []⟩, ⟨(some 10), 12, .call 26 [((.t 9), 0)], none, []⟩, ⟨(some 4), 6, .mv (.t 10), none, []⟩])
  (.seq (.seq (.ops [⟨(some 11), 13, .mv (.t 4), none, []⟩, ⟨(some 12), 14, .mv (.t 3), none, []⟩, ⟨(some 13), 15, .bin .neq (.t 11) (.t 12), none, []⟩])
  (.cond (.t 13)
  (.seq (.ops [⟨(some 2), 4, .mv (.c (.b false)), none, []⟩])
  .ret)
  .skip))
  (.seq (.ops [⟨(some 2), 4, .mv (.c (.b true)), none, []⟩])
  .ret)))))
theorem k7 : compCode Try.prog Try.f7.ntmps Try.f7.body.get! = some c7 := by kernel_rfl
theorem r7 : resTmps Try.prog Try.f7.results.toList = some [.tmp 2] := by kernel_rfl

def dgt (a : Nat) : ByteArray := ⟨#[UInt8.ofNat (48 + a % 10)]⟩
def digN (a : Nat) : ByteArray := if h : a = 0 then ⟨#[]⟩ else digN (a / 10) ++ dgt a
termination_by a
decreasing_by omega
theorem digN_zero : digN 0 = ⟨#[]⟩ := by unfold digN; simp
theorem digN_pos {a : Nat} (h : a ≠ 0) : digN a = digN (a / 10) ++ dgt a := by rw [digN]; simp [h]
theorem dgt_size (a : Nat) : (dgt a).size = 1 := rfl
theorem digN_size : ∀ (k a : Nat), a < 10 ^ k → (digN a).size ≤ k
  | 0, a, h => by
    have : a = 0 := by simpa using h
    subst this; rw [digN_zero]; exact Nat.le_refl _
  | k + 1, a, h => by
    by_cases h0 : a = 0
    · subst h0; rw [digN_zero]; exact Nat.zero_le _
    · rw [digN_pos h0, ByteArray.size_append, dgt_size]
      have := digN_size k (a / 10) (by rw [Nat.pow_succ] at h; omega)
      omega
def dig1 (a : Nat) : ByteArray := if a = 0 then ⟨#[48]⟩ else digN a
theorem dig1_lt {a : Nat} (h : a / 10 = 0) : dig1 a = dgt a := by
  unfold dig1
  by_cases h0 : a = 0
  · subst h0; rfl
  · rw [if_neg h0, digN_pos h0, h, digN_zero]; apply ByteArray.ext; simp
theorem dig1_ge {a : Nat} (h : a / 10 ≠ 0) : dig1 a = dig1 (a / 10) ++ dgt a := by
  unfold dig1
  rw [if_neg (by omega), if_neg h, digN_pos (by omega)]
theorem dig1_size {a : Nat} (h : a ≤ 9223372036854775808) : (dig1 a).size ≤ 20 := by
  unfold dig1
  by_cases h0 : a = 0
  · rw [if_pos h0]; decide
  · rw [if_neg h0]
    have h20 : (10 : Nat) ^ 20 = 100000000000000000000 := by decide
    exact digN_size 20 a (by rw [h20]; omega)
def minusT : ByteArray := ⟨#[45]⟩
def digitsF (n : Int) : ByteArray := if n < 0 then ⟨#[45]⟩ ++ dig1 n.natAbs else dig1 n.natAbs
theorem digitsF_size {n : Int} (h : i64in' n) : (digitsF n).size ≤ 21 := by
  unfold i64in' at h
  unfold digitsF
  have := dig1_size (a := n.natAbs) (by omega)
  split
  · rw [ByteArray.size_append]; have : (⟨#[45]⟩ : ByteArray).size = 1 := rfl; omega
  · omega
/-- The last digit of a number, as the program finds it. -/
theorem digit_abs (c : Int) : (if c.tmod 10 < 0 then 0 - c.tmod 10 else c.tmod 10) = ((c.natAbs % 10 : Nat) : Int) := by
  have e2 : (c.tmod 10).natAbs = c.natAbs % (10 : Int).natAbs := Int.natAbs_tmod ..
  rw [show (10 : Int).natAbs = 10 from rfl] at e2
  split <;> omega
theorem tdiv_abs (c : Int) : (c.tdiv 10).natAbs = c.natAbs / 10 := Int.natAbs_tdiv ..
theorem byte_dgt (a : Nat) : UInt8.ofNat (IntKind.u8.wrap (IntKind.i64.wrap (48 + ((a % 10 : Nat) : Int)))).toNat = UInt8.ofNat (48 + a % 10) := by
  have h1 : IntKind.i64.wrap (48 + ((a % 10 : Nat) : Int)) = 48 + ((a % 10 : Nat) : Int) := wrap_id (by omega) (by omega)
  rw [h1]
  have h2 : IntKind.u8.wrap (48 + ((a % 10 : Nat) : Int)) = 48 + ((a % 10 : Nat) : Int) := by
    rw [IntKind.wrap_u8]; omega
  rw [h2]
  congr 1
theorem w50 (n : Int) (hn : i64in' n) : Contract Try.prog false 50 [.ro] [.i .i64 n] [.s (digitsF n)] [] := by
  refine mk_contract [] Try.func50 (c := Try.f50.body.get!) (by kernel_rfl) k50 r50 (of_decide_eq_true rfl) fun _ => ?_
  unfold i64in' at hn
  have h21 : (dig1 n.natAbs).size ≤ 20 := dig1_size (by omega)
  unfold c50; simp
  refine twp_loop (fun k s => ∃ (c : Int) (S : ByteArray), c.natAbs = k ∧ i64in' c ∧ s.t 0 = .i .i64 n ∧ s.t 4 = .i .i64 c ∧ s.t 3 = .s S ∧ dig1 c.natAbs ++ S = dig1 n.natAbs ∧ s.H = lk [(1, [])]) [18] (by simp) n.natAbs ?_ ?_
  · exact ⟨n, ⟨#[]⟩, rfl, hn, by simp, by simp, by simp, by apply ByteArray.ext; simp, by simp⟩
  · rintro k s ⟨c, S, hk, hc, q0, q4, q3, hS, qH⟩
    unfold i64in' at hc
    have hSs : S.size ≤ 20 := by
      have := congrArg ByteArray.size hS
      rw [ByteArray.size_append] at this; omega
    rw [nf_of qH]
    simp [q0, q3, q4]
    have hb := byte_dgt c.natAbs
    have hq := tdiv_abs c
    have hdv : (c.tmod 10).natAbs = c.natAbs % 10 := Int.natAbs_tmod ..
    have hwq : IntKind.i64.wrap (c.tdiv 10) = c.tdiv 10 := wrap_id (by omega) (by omega)
    have hbb : (⟨#[UInt8.ofNat (IntKind.u8.wrap (IntKind.i64.wrap (48 + (c.natAbs : Int) % 10))).toNat]⟩ : ByteArray) = dgt c.natAbs := by
      have := hb
      rw [Int.natCast_emod] at this
      unfold dgt; rw [← this]; rfl
    have hs1 : (dgt c.natAbs).size = 1 := rfl
    have hs2 : (⟨#[45]⟩ : ByteArray).size = 1 := rfl
    have hend : c.tdiv 10 = 0 → dgt c.natAbs ++ S = dig1 n.natAbs := fun h => by
      rw [← hS, dig1_lt (by omega)]
    have hgo : ¬ c.tdiv 10 = 0 → dig1 (c.tdiv 10).natAbs ++ (dgt c.natAbs ++ S) = dig1 n.natAbs := fun h => by
      rw [← hS, hq, dig1_ge (a := c.natAbs) (by omega), ByteArray.append_assoc]
    refine ⟨fun hneg => ?_, fun hpos => ?_⟩
    · have hv : IntKind.i64.wrap (-c.tmod 10) = ((c.natAbs % 10 : Nat) : Int) := by rw [wrap_id (by omega) (by omega)]; omega
      simp [elemsOf, bytesT, q0, q3, q4, hwq, hbb, hs1, hs2, hv]
      refine ⟨by omega, fun h => ⟨fun h0 => ⟨by omega, ?_⟩, fun h0 => ?_⟩, fun h => ⟨(c.tdiv 10).natAbs, by omega, _, rfl, ⟨by omega, by omega⟩, rfl, hgo h⟩⟩
      · rw [hend h]; simp [digitsF, h0]
      · rw [hend h]; simp [digitsF, show ¬ n < 0 by omega]
    · have hv : c.tmod 10 = ((c.natAbs % 10 : Nat) : Int) := by omega
      rw [hv]
      simp [elemsOf, bytesT, q0, q3, q4, hwq, hbb, hs1, hs2]
      refine ⟨by omega, fun h => ⟨fun h0 => ⟨by omega, ?_⟩, fun h0 => ?_⟩, fun h => ⟨(c.tdiv 10).natAbs, by omega, _, rfl, ⟨by omega, by omega⟩, rfl, hgo h⟩⟩
      · rw [hend h]; simp [digitsF, h0]
      · rw [hend h]; simp [digitsF, show ¬ n < 0 by omega]
def digL (n : Int) : ByteArray := if n = 0 then ⟨#[]⟩ else digN n.natAbs
theorem w48 (n : Int) (hn : i64in' n) : Contract Try.prog false 48 [.ro] [.i .i64 n] [.s (digitsF n)] [] := by
  refine mk_contract [] Try.func48 (c := Try.f48.body.get!) (by kernel_rfl) k48 r48 (of_decide_eq_true rfl) fun _ => ?_
  unfold i64in' at hn
  have h21 : (dig1 n.natAbs).size ≤ 20 := dig1_size (by omega)
  unfold c48; simp
  refine ⟨fun h0 => by subst h0; rfl, fun h0 => ?_⟩
  have h1 : dig1 n.natAbs = digN n.natAbs := by unfold dig1; rw [if_neg (by omega)]
  refine twp_loop (fun k s => ∃ (c : Int) (S : ByteArray), c.natAbs = k ∧ i64in' c ∧ s.t 0 = .i .i64 c ∧ s.t 4 = .b (decide (n < 0)) ∧ s.t 3 = .s S ∧ digN c.natAbs ++ S = dig1 n.natAbs ∧ s.H = lk [(1, [])]) [23] (by simp) n.natAbs ?_ ?_
  · exact ⟨n, ⟨#[]⟩, rfl, hn, by simp, by simp, by simp, by rw [h1]; apply ByteArray.ext; simp, by simp⟩
  · rintro k s ⟨c, S, hk, hc, q0, q4, q3, hS, qH⟩
    unfold i64in' at hc
    have hSs : S.size ≤ 20 := by
      have := congrArg ByteArray.size hS
      rw [ByteArray.size_append] at this; omega
    rw [nf_of qH]
    simp [q0, q3, q4]
    have hb := byte_dgt c.natAbs
    have hq := tdiv_abs c
    have hdv : (c.tmod 10).natAbs = c.natAbs % 10 := Int.natAbs_tmod ..
    have hwq : IntKind.i64.wrap (c.tdiv 10) = c.tdiv 10 := wrap_id (by omega) (by omega)
    have hbb : (⟨#[UInt8.ofNat (IntKind.u8.wrap (IntKind.i64.wrap (48 + (c.natAbs : Int) % 10))).toNat]⟩ : ByteArray) = dgt c.natAbs := by
      have := hb
      rw [Int.natCast_emod] at this
      unfold dgt; rw [← this]; rfl
    have hs1 : (dgt c.natAbs).size = 1 := rfl
    have hs2 : (⟨#[45]⟩ : ByteArray).size = 1 := rfl
    refine ⟨fun hc0 => ?_, fun hc0 => ?_⟩
    · have hend : S = dig1 n.natAbs := by
        rw [← hS, hc0]
        show S = digN 0 ++ S
        rw [digN_zero]; apply ByteArray.ext; simp
      subst hend
      simp [q0, q3, q4, hs2]
      refine ⟨fun h2 => ⟨by omega, ?_⟩, fun h2 => ?_⟩
      · simp [digitsF, h2]
      · simp [digitsF, show ¬ n < 0 by omega]
    · have hgo : digN (c.tdiv 10).natAbs ++ (dgt c.natAbs ++ S) = dig1 n.natAbs := by
        rw [← hS, hq, digN_pos (a := c.natAbs) (by omega), ByteArray.append_assoc]
      refine ⟨fun hneg => ?_, fun hpos => ?_⟩
      · have hv : IntKind.i64.wrap (-c.tmod 10) = ((c.natAbs % 10 : Nat) : Int) := by rw [wrap_id (by omega) (by omega)]; omega
        simp [elemsOf, bytesT, q0, q3, q4, hwq, hbb, hs1, hs2, hv]
        exact ⟨by omega, (c.tdiv 10).natAbs, by omega, _, rfl, ⟨by omega, by omega⟩, rfl, hgo⟩
      · have hv : c.tmod 10 = ((c.natAbs % 10 : Nat) : Int) := by omega
        rw [hv]
        simp [elemsOf, bytesT, q0, q3, q4, hwq, hbb, hs1, hs2]
        exact ⟨by omega, (c.tdiv 10).natAbs, by omega, _, rfl, ⟨by omega, by omega⟩, rfl, hgo⟩
theorem order_some {x y : Nat} (hx : ¬ isN x) (hy : ¬ isN y) : ∃ o, FloatKind.f64.format.order x y = some o := by
  have h : FloatKind.f64.format.order x y = (Ieee.double.read x).order (Ieee.double.read y) := rfl
  rw [h]
  cases hr : Ieee.double.read x with
  | nan s t => exact absurd ⟨s, t, hr⟩ hx
  | number s m p =>
    cases hq : Ieee.double.read y with
    | nan s t => exact absurd ⟨s, t, hq⟩ hy
    | number => exact ⟨_, rfl⟩
    | infinity => exact ⟨_, rfl⟩
  | infinity s =>
    cases hq : Ieee.double.read y with
    | nan s t => exact absurd ⟨s, t, hq⟩ hy
    | number => exact ⟨_, rfl⟩
    | infinity => exact ⟨_, rfl⟩
theorem nN_C40 : ¬ isN C40 := by rw [← order_none]; decide
theorem nN_M40 : ¬ isN M40 := by rw [← order_none]; decide
theorem neg_C40 : canon (Op.negFloat .f64 4787326403894837248) = 14010698440749613056 := by decide +kernel
noncomputable def realF (x : Nat) : ByteArray :=
  if isN x then ⟨#[110, 97, 110]⟩
  else if FloatKind.f64.format.order x C40 = some .gt ∨ FloatKind.f64.format.order x C40 = some .eq then ⟨#[98, 105, 103]⟩
  else if FloatKind.f64.format.order x M40 = some .lt ∨ FloatKind.f64.format.order x M40 = some .eq then ⟨#[45, 98, 105, 103]⟩
  else digitsF (((FloatKind.f64.decode (fltArith .mul x C10)).toInt .zero).getD 0) ++ ⟨#[47, 49, 48, 50, 52]⟩
theorem real_cases {x : Nat} (nx : ¬ isN x) : (FloatKind.f64.format.order x 4787326403894837248 = some .gt ∨ FloatKind.f64.format.order x 4787326403894837248 = some .eq) ∧ realF x = ⟨#[98, 105, 103]⟩ ∨
    FloatKind.f64.format.order x 4787326403894837248 = some .lt ∧ (FloatKind.f64.format.order x 14010698440749613056 = some .lt ∨ FloatKind.f64.format.order x 14010698440749613056 = some .eq) ∧ realF x = ⟨#[45, 98, 105, 103]⟩ ∨
    FloatKind.f64.format.order x 4787326403894837248 = some .lt ∧ FloatKind.f64.format.order x 14010698440749613056 = some .gt ∧ ∃ n : Int, (FloatKind.f64.decode (fltArith .mul x 4652218415073722368)).toInt .zero = some n ∧ i64in' n ∧ realF x = digitsF n ++ ⟨#[47, 49, 48, 50, 52]⟩ := by
  obtain ⟨o, ho⟩ := order_some nx nN_C40
  obtain ⟨p, hp⟩ := order_some nx nN_M40
  have ho' : FloatKind.f64.format.order x 4787326403894837248 = some o := ho
  have hp' : FloatKind.f64.format.order x 14010698440749613056 = some p := hp
  rw [ho', hp']
  unfold realF
  rw [if_neg nx, ho, hp]
  cases o with
  | lt =>
    cases p with
    | lt => right; left; simp
    | eq => right; left; simp
    | gt =>
      right; right
      obtain ⟨n, h1, h2, h3⟩ := mul1024 nx ho hp
      refine ⟨rfl, rfl, n, h1, ⟨by omega, by omega⟩, ?_⟩
      rw [h1]; simp
  | eq => left; simp
  | gt => left; simp
theorem realF_size (x : Nat) : (realF x).size ≤ 30 := by
  by_cases nx : isN x
  · unfold realF; rw [if_pos nx]; decide
  · rcases real_cases nx with ⟨_, h⟩ | ⟨_, _, h⟩ | ⟨_, _, n, _, h1, h⟩
    · rw [h]; decide
    · rw [h]; decide
    · rw [h, ByteArray.size_append]
      have := digitsF_size h1
      have h5 : (⟨#[47, 49, 48, 50, 52]⟩ : ByteArray).size = 5 := rfl
      omega
theorem w51 (x : Nat) : Contract Try.prog false 51 [.ro] [.f x] [.s (realF x)] [] := by
  refine mk_contract [] Try.func51 (c := Try.f51.body.get!) (by kernel_rfl) k51 r51 (of_decide_eq_true rfl) fun _ => ?_
  unfold c51; simp [fne_self, neg_C40]
  by_cases nx : isN x
  · simp [nx, realF]
  · simp [nx, neg_C40]
    rcases real_cases nx with ⟨h | h, hR⟩ | ⟨h, h' | h', hR⟩ | ⟨h, h', n, hn, hi, hR⟩
    · simp [h, hR, neg_C40]
    · simp [h, hR, neg_C40]
    · simp [h, h', hR, neg_C40]
    · simp [h, h', hR, neg_C40]
    · simp [h, h', neg_C40, mul_comm' 4652218415073722368 x, hn]
      have hi' := hi
      unfold i64in' at hi'
      have e1 : IntKind.i64.min = -9223372036854775808 := rfl
      refine ⟨by omega, by omega, ?_⟩
      have hsz := digitsF_size hi
      have h5 : (⟨#[47, 49, 48, 50, 52]⟩ : ByteArray).size = 5 := rfl
      refine callW_ms [.ro] ?_
      simp
      refine callX_of (w50 n hi) (by simp) ?_
      simp [h5, hR]
      omega
theorem w49 (x : Nat) : Contract Try.prog false 49 [.ro] [.f x] [.s (realF x)] [] := by
  refine mk_contract [] Try.func49 (c := Try.f49.body.get!) (by kernel_rfl) k49 r49 (of_decide_eq_true rfl) fun _ => ?_
  unfold c49; simp [fne_self, neg_C40]
  by_cases nx : isN x
  · simp [nx, realF]
  · simp [nx, neg_C40]
    rcases real_cases nx with ⟨h | h, hR⟩ | ⟨h, h' | h', hR⟩ | ⟨h, h', n, hn, hi, hR⟩
    · simp [h, hR, neg_C40]
    · simp [h, hR, neg_C40]
    · simp [h, h', hR, neg_C40]
    · simp [h, h', hR, neg_C40]
    · simp [h, h', neg_C40, hn]
      have hi' := hi
      unfold i64in' at hi'
      have e1 : IntKind.i64.min = -9223372036854775808 := rfl
      refine ⟨by omega, by omega, ?_⟩
      have hsz := digitsF_size hi
      have h5 : (⟨#[47, 49, 48, 50, 52]⟩ : ByteArray).size = 5 := rfl
      refine callW_ms [.ro] ?_
      simp
      refine callX_of (w48 n hi) (by simp) ?_
      simp [h5, hR]
      omega
noncomputable def textF (v : ValP) : ByteArray :=
  if ValOkP v then
    (if v.1 = 1 then digitsF v.2.1
    else if v.1 = 2 then realF v.2.2.1
    else if v.1 = 3 then ⟨#[40]⟩ ++ realF v.2.2.1 ++ ⟨#[32]⟩ ++ realF v.2.2.2 ++ ⟨#[41]⟩
    else if v.2.1 = 1 then ⟨#[121, 101, 115]⟩ else ⟨#[110, 111]⟩)
  else ⟨#[63]⟩
theorem ok_bool' {v : ValP} (h : ValOkP v) (h1 : ¬ v.1 = 1) (h2 : ¬ v.1 = 2) (h3 : ¬ v.1 = 3) : v.2.1 = 0 ∨ v.2.1 = 1 := by
  unfold ValOkP at h
  rcases h with h | h | h | h
  · exact absurd h.1 h1
  · exact absurd h.1 h2
  · exact absurd h.1 h3
  · exact h.2.1
theorem w25 (v : ValP) (hv : valOkF v) (hr : i64in' v.2.1) : Contract Try.prog false 25 [.ro] [valV v] [.s (textF v)] [] := by
  refine mk_contract [] Try.func25 (c := Try.f25.body.get!) (by kernel_rfl) k25 r25 (of_decide_eq_true rfl) fun _ => ?_
  unfold c25; unfold valV textF; simp
  have z1 := realF_size v.2.2.1
  have z2 := realF_size v.2.2.2
  have s1 : (⟨#[40]⟩ : ByteArray).size = 1 := rfl
  have s2 : (⟨#[32]⟩ : ByteArray).size = 1 := rfl
  have s3 : (⟨#[41]⟩ : ByteArray).size = 1 := rfl
  by_cases h1 : ValOkP v
  · refine callW_ms [.ro] ?_
    simp [valV]
    refine callX_of ((w18 v hv).t h1) (by simp) ?_
    simp
    by_cases k1 : v.1 = 1
    · simp [k1]
      refine callW_ms [.ro] ?_
      simp
      refine callX_of (w48 _ hr) (by simp) ?_
      simp [h1]
    by_cases k2 : v.1 = 2
    · simp [k2]
      refine callW_ms [.ro] ?_
      simp
      refine callX_of (w49 _) (by simp) ?_
      simp [h1]
    by_cases k3 : v.1 = 3
    · simp [k3]
      refine callW_ms [.ro] ?_
      simp
      refine callX_of (w49 v.2.2.1) (by simp) ?_
      simp [h1, s1, s2, s3]
      refine ⟨by omega, by omega, ?_⟩
      refine callW_ms [.ro] ?_
      simp
      refine callX_of (w49 v.2.2.2) (by simp) ?_
      simp [h1, s1, s2, s3]
      omega
    by_cases i1 : v.2.1 = 1
    · simp [k1, k2, k3, i1, h1]
    · simp [k1, k2, k3, i1, h1]
  · refine callW_ms [.ro] ?_
    simp [valV]
    refine callX_of ((w18 v hv).f h1) (by simp) ?_
    simp [h1]
theorem w26 (v : ValP) (hr : i64in' v.2.1) : Contract Try.prog false 26 [.ro] [valV v] [.s (textF v)] [] := by
  refine mk_contract [] Try.func26 (c := Try.f26.body.get!) (by kernel_rfl) k26 r26 (of_decide_eq_true rfl) fun _ => ?_
  unfold c26; unfold valV textF; simp
  have z1 := realF_size v.2.2.1
  have z2 := realF_size v.2.2.2
  have s1 : (⟨#[40]⟩ : ByteArray).size = 1 := rfl
  have s2 : (⟨#[32]⟩ : ByteArray).size = 1 := rfl
  have s3 : (⟨#[41]⟩ : ByteArray).size = 1 := rfl
  by_cases h1 : ValOkP v
  · refine callW_ms [.ro] ?_
    simp [valV]
    refine callX_of ((w19 v).t h1) (by simp) ?_
    simp
    by_cases k1 : v.1 = 1
    · simp [k1]
      refine callW_ms [.ro] ?_
      simp
      refine callX_of (w50 _ hr) (by simp) ?_
      simp [h1]
    by_cases k2 : v.1 = 2
    · simp [k2]
      refine callW_ms [.ro] ?_
      simp
      refine callX_of (w51 _) (by simp) ?_
      simp [h1]
    by_cases k3 : v.1 = 3
    · simp [k3]
      refine callW_ms [.ro] ?_
      simp
      refine callX_of (w51 v.2.2.1) (by simp) ?_
      simp [h1, s1, s2, s3]
      refine ⟨by omega, by omega, ?_⟩
      refine callW_ms [.ro] ?_
      simp
      refine callX_of (w51 v.2.2.2) (by simp) ?_
      simp [h1, s1, s2, s3]
      omega
    rcases ok_bool' h1 k1 k2 k3 with i1 | i1
    · simp [k1, k2, k3, i1, h1]
    · simp [k1, k2, k3, i1, h1]
  · refine callW_ms [.ro] ?_
    simp [valV]
    refine callX_of ((w19 v).f h1) (by simp) ?_
    simp [h1]
theorem w7 (v : ValP) (hv : valOkF v) (hr : i64in' v.2.1) : Contract Try.prog false 7 [.ro] [valV v] [.b true] [] := by
  refine mk_contract [] Try.func7 (c := Try.f7.body.get!) (by kernel_rfl) k7 r7 (of_decide_eq_true rfl) fun _ => ?_
  unfold c7; unfold valV; simp
  refine callW_ms [.ro] ?_
  simp [valV]
  refine callX_of (w16 v) (by simp) ?_
  simp [valV]
  refine callW_ms [.ro] ?_
  simp [valV]
  refine callX_of (w25 v hv hr) (by simp) ?_
  simp
  refine callW_ms [.ro] ?_
  simp [valV]
  refine callX_of (w16 v) (by simp) ?_
  simp [valV]
  refine callW_ms [.ro] ?_
  simp [valV]
  refine callX_of (w26 v hr) (by simp) ?_
  simp
end Go.Proofs.YtpoalnlkhlchbaaT
