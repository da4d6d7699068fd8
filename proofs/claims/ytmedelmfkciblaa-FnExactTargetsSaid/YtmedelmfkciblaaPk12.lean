/- Texts of this session's own, one behind the other: Ks4. -/
import Derived.Test.YtmedelmfkciblaaPk11
/- Targets. -/
namespace Go.Proofs.YtmedelmfkciblaaT
set_option linter.unusedVariables false
set_option linter.unusedSimpArgs false
open Go

/- spec.Targets -/
def c28 : TCode := (.seq (.ops [⟨(some 2), 4, .mv (.c (.sl true 1 [])), none, []⟩])
  (.seq (.ops [⟨(some 6), 8, .bslice 1 0 [(.i .i64 0)] [], none, []⟩, ⟨(some 3), 5, .mv (.t 6), none, []⟩])
  (.seq (.seq (.ops [⟨(some 4), 6, .mv (.c (.i .i64 0)), none, []⟩])
  (.block 0 (.loop (.seq (.seq (.ops [⟨(some 7), 9, .mv (.t 4), none, []⟩, ⟨(some 8), 10, .mv (.t 0), none, []⟩, ⟨(some 9), 11, .len false (.t 8), none, []⟩, ⟨(some 10), 12, .bin .lss (.t 7) (.t 9), none, []⟩])
  (.cond (.t 10)
  .skip
  (.exit 0)))
  (.seq (.block 1 (.seq (.ops [⟨(some 13), 15, .mv (.t 0), none, []⟩, ⟨(some 14), 16, .mv (.t 4), none, []⟩, ⟨(some 15), 17, .iaddr 9 (.t 13) (.t 14), none, []⟩, ⟨(some 16), 18, .faddr 0 1 (.t 15), none, []⟩, ⟨(some 17), 19, .load false 1 (.t 16), none, []⟩])
  (.block 2 (.seq (.ops [⟨(some 19), 21, .bin .eql (.t 17) (.c (.i .i64 1)), none, []⟩, ⟨(some 18), 20, .mv (.t 19), none, []⟩])
  (.cond (.t 18)
  (.seq (.ops [⟨(some 5), 7, .mv (.c (.i .i64 0)), none, []⟩])
  (.block 3 (.loop (.seq (.seq (.ops [⟨(some 20), 22, .mv (.t 5), none, []⟩, ⟨(some 21), 23, .mv (.t 0), none, []⟩, ⟨(some 22), 24, .mv (.t 4), none, []⟩, ⟨(some 23), 25, .iaddr 9 (.t 21) (.t 22), none, []⟩, ⟨(some 24), 26, .faddr 8 1 (.t 23), none, []⟩, ⟨(some 25), 27, .load false 1 (.t 24), none, []⟩, ⟨(some 26), 28, .len false (.t 25), none, []⟩, ⟨(some 27), 29, .bin .lss (.t 20) (.t 26), none, []⟩])
  (.cond (.t 27)
  .skip
  (.exit 3)))
  (.seq (.block 4 (.ops [⟨(some 30), 32, .mv (.t 3), none, []⟩, ⟨(some 31), 33, .mv (.t 0), none, []⟩, ⟨(some 32), 34, .mv (.t 4), none, []⟩, ⟨(some 33), 35, .iaddr 9 (.t 31) (.t 32), none, []⟩, ⟨(some 34), 36, .faddr 8 1 (.t 33), none, []⟩, ⟨(some 35), 37, .load false 1 (.t 34), none, []⟩, ⟨(some 36), 38, .mv (.t 5), none, []⟩, ⟨(some 37), 39, .iaddr 5 (.t 35) (.t 36), none, []⟩, ⟨(some 38), 40, .faddr 0 1 (.t 37), none, []⟩, ⟨(some 39), 41, .load false 1 (.t 38), none, []⟩, ⟨(some 40), 42, .bslice 1 1 [(.i .i64 0)] [(0, (.t 39))], none, []⟩, ⟨(some 41), 43, .app 1 8 (.t 30) (.t 40), none, []⟩, ⟨(some 3), 5, .mv (.t 41), none, []⟩]))
  (.ops [⟨(some 28), 30, .mv (.t 5), none, []⟩, ⟨(some 29), 31, .bin .add (.t 28) (.c (.i .i64 1)), none, []⟩, ⟨(some 5), 7, .mv (.t 29), none, []⟩]))))))
  (.seq (.seq (.ops [⟨(some 43), 45, .bin .eql (.t 17) (.c (.i .i64 3)), none, []⟩, ⟨(some 42), 44, .mv (.t 43), none, []⟩])
  (.cond (.t 42)
  .skip
  (.ops [⟨(some 44), 46, .bin .eql (.t 17) (.c (.i .i64 4)), none, []⟩, ⟨(some 42), 44, .mv (.t 44), none, []⟩])))
  (.cond (.t 42)
  (.ops [⟨(some 45), 47, .mv (.t 3), none, []⟩, ⟨(some 46), 48, .mv (.t 0), none, []⟩, ⟨(some 47), 49, .mv (.t 4), none, []⟩, ⟨(some 48), 50, .iaddr 9 (.t 46) (.t 47), none, []⟩, ⟨(some 49), 51, .faddr 3 1 (.t 48), none, []⟩, ⟨(some 50), 52, .load false 1 (.t 49), none, []⟩, ⟨(some 51), 53, .bslice 1 1 [(.i .i64 0)] [(0, (.t 50))], none, []⟩, ⟨(some 52), 54, .app 1 8 (.t 45) (.t 51), none, []⟩, ⟨(some 3), 5, .mv (.t 52), none, []⟩])
  .skip)))))))
  (.ops [⟨(some 11), 13, .mv (.t 4), none, []⟩, ⟨(some 12), 14, .bin .add (.t 11) (.c (.i .i64 1)), none, []⟩, ⟨(some 4), 6, .mv (.t 12), none, []⟩]))))))
  (.seq (.ops [⟨(some 53), 55, .mv (.t 3), none, []⟩, ⟨(some 54), 56, .call 77 [((.t 53), 0)], none, []⟩, ⟨(some 2), 4, .mv (.t 54), none, []⟩])
  .ret))))
theorem k28 : compCode Try.prog Try.f28.ntmps Try.f28.body.get! = some c28 := by kernel_rfl
theorem r28 : resTmps Try.prog Try.f28.results.toList = some [.tmp 2] := by kernel_rfl
/- impl.Targets -/
def c30 : TCode := (.seq (.ops [⟨(some 2), 4, .mv (.c (.sl true 1 [])), none, []⟩])
  (.seq (.ops [⟨(some 8), 10, .bslice 1 0 [(.i .i64 0)] [], none, []⟩, ⟨(some 3), 5, .mv (.t 8), none, []⟩])
  (.seq (.seq (.ops [⟨(some 9), 11, .mv (.t 0), none, []⟩, ⟨(some 10), 12, .len false (.t 9), none, []⟩, ⟨(some 11), 13, .mv (.c (.i .i64 0)), none, []⟩])
  (.block 0 (.loop (.seq (.ops [⟨(some 12), 14, .bin .lss (.t 11) (.t 10), none, []⟩])
  (.seq (.cond (.t 12)
  .skip
  (.exit 0))
  (.seq (.block 1 (.seq (.ops [⟨(some 13), 15, .iaddr 9 (.t 9) (.t 11), none, []⟩, ⟨(some 14), 16, .load true 9 (.t 13), none, []⟩, ⟨(some 5), 7, .box 9 (.c (.ag [(.i .i64 0), (.i .i64 0), (.i .i64 0), (.i .i64 0), (.i .i64 0), (.i .i64 0), (.f 0), (.f 0), (.sl true 5 [])])), none, []⟩, ⟨none, 1004003, .store 9 (.t 5) (.t 14), none, []⟩])
  (.seq (.ops [⟨(some 15), 17, .faddr 0 1 (.t 5), none, []⟩, ⟨(some 16), 18, .load false 1 (.t 15), none, []⟩])
  (.block 2 (.seq (.ops [⟨(some 18), 20, .bin .eql (.t 16) (.c (.i .i64 1)), none, []⟩, ⟨(some 17), 19, .mv (.t 18), none, []⟩])
  (.cond (.t 17)
  (.seq (.ops [⟨(some 19), 21, .faddr 8 1 (.t 5), none, []⟩, ⟨(some 20), 22, .load false 1 (.t 19), none, []⟩, ⟨(some 21), 23, .len false (.t 20), none, []⟩, ⟨(some 22), 24, .mv (.c (.i .i64 0)), none, []⟩])
  (.block 3 (.loop (.seq (.ops [⟨(some 23), 25, .bin .lss (.t 22) (.t 21), none, []⟩])
  (.seq (.cond (.t 23)
  .skip
  (.exit 3))
  (.seq (.block 4 (.seq (.ops [⟨(some 24), 26, .iaddr 5 (.t 20) (.t 22), none, []⟩, ⟨(some 25), 27, .load true 5 (.t 24), none, []⟩, ⟨(some 7), 9, .box 5 (.c (.ag [(.i .i64 0), (.i .i64 0), (.i .i64 0), (.f 0), (.f 0)])), none, []⟩, ⟨none, 1009003, .store 5 (.t 7) (.t 25), none, []⟩])
  (.ops [⟨(some 26), 28, .mv (.t 3), none, []⟩, ⟨(some 27), 29, .faddr 0 1 (.t 7), none, []⟩, ⟨(some 28), 30, .load false 1 (.t 27), none, []⟩, ⟨(some 29), 31, .bslice 1 1 [(.i .i64 0)] [(0, (.t 28))], none, []⟩, ⟨(some 30), 32, .app 1 8 (.t 26) (.t 29), none, []⟩, ⟨(some 3), 5, .mv (.t 30), none, []⟩])))
  (.ops [⟨(some 31), 33, .bin .add (.t 22) (.c (.i .i64 1)), none, []⟩, ⟨(some 22), 24, .mv (.t 31), none, []⟩])))))))
  (.seq (.seq (.ops [⟨(some 33), 35, .bin .eql (.t 16) (.c (.i .i64 3)), none, []⟩, ⟨(some 32), 34, .mv (.t 33), none, []⟩])
  (.cond (.t 32)
  .skip
  (.ops [⟨(some 34), 36, .bin .eql (.t 16) (.c (.i .i64 4)), none, []⟩, ⟨(some 32), 34, .mv (.t 34), none, []⟩])))
  (.cond (.t 32)
  (.ops [⟨(some 35), 37, .mv (.t 3), none, []⟩, ⟨(some 36), 38, .faddr 3 1 (.t 5), none, []⟩, ⟨(some 37), 39, .load false 1 (.t 36), none, []⟩, ⟨(some 38), 40, .bslice 1 1 [(.i .i64 0)] [(0, (.t 37))], none, []⟩, ⟨(some 39), 41, .app 1 8 (.t 35) (.t 38), none, []⟩, ⟨(some 3), 5, .mv (.t 39), none, []⟩])
  .skip))))))))
  (.ops [⟨(some 40), 42, .bin .add (.t 11) (.c (.i .i64 1)), none, []⟩, ⟨(some 11), 13, .mv (.t 40), none, []⟩])))))))
  (.seq (.ops [⟨(some 41), 43, .mv (.t 3), none, []⟩, ⟨(some 42), 44, .call 78 [((.t 41), 0)], none, []⟩, ⟨(some 2), 4, .mv (.t 42), none, []⟩])
  .ret))))
theorem k30 : compCode Try.prog Try.f30.ntmps Try.f30.body.get! = some c30 := by kernel_rfl
theorem r30 : resTmps Try.prog Try.f30.results.toList = some [.tmp 2] := by kernel_rfl
/- laws.markCellS -/
def c79 : TCode := (.seq (.ops [⟨(some 4), 6, .mv (.c (.i .i64 0)), none, []⟩])
  (.seq (.seq (.ops [⟨(some 5), 7, .mv (.c (.i .i64 0)), none, []⟩])
  (.block 0 (.loop (.seq (.seq (.ops [⟨(some 6), 8, .mv (.t 5), none, []⟩, ⟨(some 7), 9, .mv (.t 0), none, []⟩, ⟨(some 8), 10, .len false (.t 7), none, []⟩, ⟨(some 9), 11, .bin .lss (.t 6) (.t 8), none, []⟩])
  (.cond (.t 9)
  .skip
  (.exit 0)))
  (.seq (.block 1 (.seq (.ops [⟨(some 12), 14, .mv (.t 0), none, []⟩, ⟨(some 13), 15, .mv (.t 5), none, []⟩, ⟨(some 14), 16, .mv (.t 1), none, []⟩, ⟨(some 15), 17, .iaddr 5 (.t 12) (.t 13), none, []⟩, ⟨(some 16), 18, .faddr 0 1 (.t 15), none, []⟩, ⟨none, 1004005, .store 1 (.t 16) (.t 14), none, []⟩])
  (.seq (.ops [⟨(some 17), 19, .mv (.t 1), none, []⟩, ⟨(some 18), 20, .bin .add (.t 17) (.c (.i .i64 1)), none, []⟩, ⟨(some 1), 3, .mv (.t 18), none, []⟩])
  (.seq (.ops [⟨(some 19), 21, .mv (.t 0), none, []⟩, ⟨(some 20), 22, .mv (.t 5), none, []⟩, ⟨(some 21), 23, .mv (.t 1), none, []⟩, ⟨(some 22), 24, .iaddr 5 (.t 19) (.t 20), none, []⟩, ⟨(some 23), 25, .faddr 1 4 (.t 22), none, []⟩, ⟨(some 24), 26, .faddr 0 1 (.t 23), none, []⟩, ⟨none, 1006006, .store 1 (.t 24) (.t 21), none, []⟩])
  (.seq (.ops [⟨(some 25), 27, .mv (.t 1), none, []⟩, ⟨(some 26), 28, .bin .add (.t 25) (.c (.i .i64 1)), none, []⟩, ⟨(some 1), 3, .mv (.t 26), none, []⟩])
  (.seq (.ops [⟨(some 27), 29, .mv (.t 0), none, []⟩, ⟨(some 28), 30, .mv (.t 5), none, []⟩, ⟨(some 29), 31, .mv (.t 1), none, []⟩, ⟨(some 30), 32, .iaddr 5 (.t 27) (.t 28), none, []⟩, ⟨(some 31), 33, .faddr 1 4 (.t 30), none, []⟩, ⟨(some 32), 34, .faddr 1 1 (.t 31), none, []⟩, ⟨none, 1008006, .store 1 (.t 32) (.t 29), none, []⟩])
  (.seq (.ops [⟨(some 33), 35, .mv (.t 1), none, []⟩, ⟨(some 34), 36, .bin .add (.t 33) (.c (.i .i64 1)), none, []⟩, ⟨(some 1), 3, .mv (.t 34), none, []⟩])
  (.seq (.ops [⟨(some 35), 37, .mv (.t 0), none, []⟩, ⟨(some 36), 38, .mv (.t 5), none, []⟩, ⟨(some 37), 39, .mv (.t 1), none, []⟩, ⟨(some 38), 40, .toF (.t 37), none, []⟩, ⟨(some 39), 41, .iaddr 5 (.t 35) (.t 36), none, []⟩, ⟨(some 40), 42, .faddr 1 4 (.t 39), none, []⟩, ⟨(some 41), 43, .faddr 2 1 (.t 40), none, []⟩, ⟨none, 1010007, .store 1 (.t 41) (.t 38), none, []⟩])
  (.seq (.ops [⟨(some 42), 44, .mv (.t 1), none, []⟩, ⟨(some 43), 45, .bin .add (.t 42) (.c (.i .i64 1)), none, []⟩, ⟨(some 1), 3, .mv (.t 43), none, []⟩])
  (.seq (.ops [⟨(some 44), 46, .mv (.t 0), none, []⟩, ⟨(some 45), 47, .mv (.t 5), none, []⟩, ⟨(some 46), 48, .mv (.t 1), none, []⟩, ⟨(some 47), 49, .toF (.t 46), none, []⟩, ⟨(some 48), 50, .iaddr 5 (.t 44) (.t 45), none, []⟩, ⟨(some 49), 51, .faddr 1 4 (.t 48), none, []⟩, ⟨(some 50), 52, .faddr 3 1 (.t 49), none, []⟩, ⟨none, 1012007, .store 1 (.t 50) (.t 47), none, []⟩])
  (.ops [⟨(some 51), 53, .mv (.t 1), none, []⟩, ⟨(some 52), 54, .bin .add (.t 51) (.c (.i .i64 1)), none, []⟩, ⟨(some 1), 3, .mv (.t 52), none, []⟩])))))))))))
  (.ops [⟨(some 10), 12, .mv (.t 5), none, []⟩, ⟨(some 11), 13, .bin .add (.t 10) (.c (.i .i64 1)), none, []⟩, ⟨(some 5), 7, .mv (.t 11), none, []⟩]))))))
  (.seq (.ops [⟨(some 53), 55, .mv (.t 1), none, []⟩, ⟨(some 4), 6, .mv (.t 53), none, []⟩])
  .ret)))
theorem k79 : compCode Try.prog Try.f79.ntmps Try.f79.body.get! = some c79 := by kernel_rfl
theorem r79 : resTmps Try.prog Try.f79.results.toList = some [.tmp 4] := by kernel_rfl
/- laws.markCmdS -/
def c33 : TCode := (.seq (.ops [⟨(some 4), 6, .mv (.c (.i .i64 0)), none, []⟩])
  (.seq (.seq (.ops [⟨(some 5), 7, .mv (.c (.i .i64 0)), none, []⟩])
  (.block 0 (.loop (.seq (.seq (.ops [⟨(some 6), 8, .mv (.t 5), none, []⟩, ⟨(some 7), 9, .mv (.t 0), none, []⟩, ⟨(some 8), 10, .len false (.t 7), none, []⟩, ⟨(some 9), 11, .bin .lss (.t 6) (.t 8), none, []⟩])
  (.cond (.t 9)
  .skip
  (.exit 0)))
  (.seq (.block 1 (.seq (.ops [⟨(some 12), 14, .mv (.t 0), none, []⟩, ⟨(some 13), 15, .mv (.t 5), none, []⟩, ⟨(some 14), 16, .mv (.t 1), none, []⟩, ⟨(some 15), 17, .iaddr 9 (.t 12) (.t 13), none, []⟩, ⟨(some 16), 18, .faddr 0 1 (.t 15), none, []⟩, ⟨none, 1004005, .store 1 (.t 16) (.t 14), none, []⟩])
  (.seq (.ops [⟨(some 17), 19, .mv (.t 1), none, []⟩, ⟨(some 18), 20, .bin .add (.t 17) (.c (.i .i64 1)), none, []⟩, ⟨(some 1), 3, .mv (.t 18), none, []⟩])
  (.seq (.ops [⟨(some 19), 21, .mv (.t 0), none, []⟩, ⟨(some 20), 22, .mv (.t 5), none, []⟩, ⟨(some 21), 23, .mv (.t 1), none, []⟩, ⟨(some 22), 24, .iaddr 9 (.t 19) (.t 20), none, []⟩, ⟨(some 23), 25, .faddr 1 2 (.t 22), none, []⟩, ⟨(some 24), 26, .faddr 0 1 (.t 23), none, []⟩, ⟨none, 1006006, .store 1 (.t 24) (.t 21), none, []⟩])
  (.seq (.ops [⟨(some 25), 27, .mv (.t 1), none, []⟩, ⟨(some 26), 28, .bin .add (.t 25) (.c (.i .i64 1)), none, []⟩, ⟨(some 1), 3, .mv (.t 26), none, []⟩])
  (.seq (.ops [⟨(some 27), 29, .mv (.t 0), none, []⟩, ⟨(some 28), 30, .mv (.t 5), none, []⟩, ⟨(some 29), 31, .mv (.t 1), none, []⟩, ⟨(some 30), 32, .iaddr 9 (.t 27) (.t 28), none, []⟩, ⟨(some 31), 33, .faddr 1 2 (.t 30), none, []⟩, ⟨(some 32), 34, .faddr 1 1 (.t 31), none, []⟩, ⟨none, 1008006, .store 1 (.t 32) (.t 29), none, []⟩])
  (.seq (.ops [⟨(some 33), 35, .mv (.t 1), none, []⟩, ⟨(some 34), 36, .bin .add (.t 33) (.c (.i .i64 1)), none, []⟩, ⟨(some 1), 3, .mv (.t 34), none, []⟩])
  (.seq (.ops [⟨(some 35), 37, .mv (.t 0), none, []⟩, ⟨(some 36), 38, .mv (.t 5), none, []⟩, ⟨(some 37), 39, .mv (.t 1), none, []⟩, ⟨(some 38), 40, .iaddr 9 (.t 35) (.t 36), none, []⟩, ⟨(some 39), 41, .faddr 3 1 (.t 38), none, []⟩, ⟨none, 1010005, .store 1 (.t 39) (.t 37), none, []⟩])
  (.seq (.ops [⟨(some 40), 42, .mv (.t 1), none, []⟩, ⟨(some 41), 43, .bin .add (.t 40) (.c (.i .i64 1)), none, []⟩, ⟨(some 1), 3, .mv (.t 41), none, []⟩])
  (.seq (.ops [⟨(some 42), 44, .mv (.t 0), none, []⟩, ⟨(some 43), 45, .mv (.t 5), none, []⟩, ⟨(some 44), 46, .mv (.t 1), none, []⟩, ⟨(some 45), 47, .iaddr 9 (.t 42) (.t 43), none, []⟩, ⟨(some 46), 48, .faddr 4 4 (.t 45), none, []⟩, ⟨(some 47), 49, .faddr 0 1 (.t 46), none, []⟩, ⟨none, 1012006, .store 1 (.t 47) (.t 44), none, []⟩])
  (.seq (.ops [⟨(some 48), 50, .mv (.t 1), none, []⟩, ⟨(some 49), 51, .bin .add (.t 48) (.c (.i .i64 1)), none, []⟩, ⟨(some 1), 3, .mv (.t 49), none, []⟩])
  (.seq (.ops [⟨(some 50), 52, .mv (.t 0), none, []⟩, ⟨(some 51), 53, .mv (.t 5), none, []⟩, ⟨(some 52), 54, .mv (.t 1), none, []⟩, ⟨(some 53), 55, .iaddr 9 (.t 50) (.t 51), none, []⟩, ⟨(some 54), 56, .faddr 4 4 (.t 53), none, []⟩, ⟨(some 55), 57, .faddr 1 1 (.t 54), none, []⟩, ⟨none, 1014006, .store 1 (.t 55) (.t 52), none, []⟩])
  (.seq (.ops [⟨(some 56), 58, .mv (.t 1), none, []⟩, ⟨(some 57), 59, .bin .add (.t 56) (.c (.i .i64 1)), none, []⟩, ⟨(some 1), 3, .mv (.t 57), none, []⟩])
  (.seq (.ops [⟨(some 58), 60, .mv (.t 0), none, []⟩, ⟨(some 59), 61, .mv (.t 5), none, []⟩, ⟨(some 60), 62, .mv (.t 1), none, []⟩, ⟨(some 61), 63, .toF (.t 60), none, []⟩, ⟨(some 62), 64, .iaddr 9 (.t 58) (.t 59), none, []⟩, ⟨(some 63), 65, .faddr 4 4 (.t 62), none, []⟩, ⟨(some 64), 66, .faddr 2 1 (.t 63), none, []⟩, ⟨none, 1016007, .store 1 (.t 64) (.t 61), none, []⟩])
  (.seq (.ops [⟨(some 65), 67, .mv (.t 1), none, []⟩, ⟨(some 66), 68, .bin .add (.t 65) (.c (.i .i64 1)), none, []⟩, ⟨(some 1), 3, .mv (.t 66), none, []⟩])
  (.seq (.ops [⟨(some 67), 69, .mv (.t 0), none, []⟩, ⟨(some 68), 70, .mv (.t 5), none, []⟩, ⟨(some 69), 71, .mv (.t 1), none, []⟩, ⟨(some 70), 72, .toF (.t 69), none, []⟩, ⟨(some 71), 73, .iaddr 9 (.t 67) (.t 68), none, []⟩, ⟨(some 72), 74, .faddr 4 4 (.t 71), none, []⟩, ⟨(some 73), 75, .faddr 3 1 (.t 72), none, []⟩, ⟨none, 1018007, .store 1 (.t 73) (.t 70), none, []⟩])
  (.seq (.ops [⟨(some 74), 76, .mv (.t 1), none, []⟩, ⟨(some 75), 77, .bin .add (.t 74) (.c (.i .i64 1)), none, []⟩, ⟨(some 1), 3, .mv (.t 75), none, []⟩])
  (.ops [⟨(some 76), 78, .mv (.t 0), none, []⟩, ⟨(some 77), 79, .mv (.t 5), none, []⟩, ⟨(some 78), 80, .iaddr 9 (.t 76) (.t 77), none, []⟩, ⟨(some 79), 81, .faddr 8 1 (.t 78), none, []⟩, ⟨(some 80), 82, .load false 1 (.t 79), none, []⟩, ⟨(some 81), 83, .mv (.t 1), none, []⟩, ⟨(some 82), 84, .call 79 [((.t 80), 0), ((.t 81), 0)], none, []⟩, ⟨(some 1), 3, .mv (.t 82), none, []⟩]))))))))))))))))))
  (.ops [⟨(some 10), 12, .mv (.t 5), none, []⟩, ⟨(some 11), 13, .bin .add (.t 10) (.c (.i .i64 1)), none, []⟩, ⟨(some 5), 7, .mv (.t 11), none, []⟩]))))))
  (.seq (.ops [⟨(some 83), 85, .mv (.t 1), none, []⟩, ⟨(some 4), 6, .mv (.t 83), none, []⟩])
  .ret)))
theorem k33 : compCode Try.prog Try.f33.ntmps Try.f33.body.get! = some c33 := by kernel_rfl
theorem r33 : resTmps Try.prog Try.f33.results.toList = some [.tmp 4] := by kernel_rfl
/- laws.FnExactTargets -/
def c5 : TCode := (.seq (.ops [⟨(some 2), 4, .mv (.c (.b false)), none, []⟩])
  (.seq (.ops [⟨(some 3), 5, .mv (.c (.i .i64 1048576)), none, []⟩])
  (.seq (.ops [⟨(some 11), 13, .mv (.t 0), none, []⟩, ⟨(some 12), 14, .mv (.t 3), none, []⟩, ⟨(some 13), 15, .call 27 [((.t 11), 0), ((.t 12), 0)], none, []⟩, ⟨(some 3), 5, .mv (.t 13), none, []⟩])
  (.seq (.seq (.ops [⟨(some 14), 16, .mv (.t 3), none, []⟩, ⟨(some 15), 17, .bin .lss (.t 14) (.c (.i .i64 0)), none, []⟩])
  (.cond (.t 15)
  (.seq (.ops [⟨(some 2), 4, .mv (.c (.b true)), none, []⟩])
  .ret)
  .skip))
  (.seq (.ops [⟨(some 16), 18, .mv (.t 0), none, []⟩, ⟨(some 17), 19, .call 29 [((.t 16), 0)], none, []⟩, ⟨(some 18), 20, .call 28 [((.t 17), 0)], none, []⟩, ⟨(some 4), 6, .mv (.t 18), none, []⟩])
  (.seq (.ops [⟨(some 19), 21, .mv (.t 0), none, []⟩, ⟨(some 20), 22, .call 29 [((.t 19), 0)], none, []⟩, ⟨(some 5), 7, .mv (.t 20), none, []⟩])
  (.seq (.ops [⟨(some 21), 23, .mv (.t 5), none, []⟩, ⟨(some 22), 24, .call 30 [((.t 21), 0)], none, []⟩, ⟨(some 6), 8, .mv (.t 22), none, []⟩])
  (.seq (.seq (.ops [⟨(some 23), 25, .mv (.t 6), none, []⟩, ⟨(some 24), 26, .mv (.t 4), none, []⟩, ⟨(some 25), 27, .call 31 [((.t 23), 0), ((.t 24), 0)], none, []⟩, ⟨(some 26), 28, .un .not (.t 25), none, []⟩])
  (.cond (.t 26)
  (.seq (.ops [⟨(some 2), 4, .mv (.c (.b false)), none, []⟩])
  .ret)
  .skip))
  (.seq (.seq (.ops [⟨(some 27), 29, .mv (.t 5), none, []⟩, ⟨(some 28), 30, .mv (.t 0), none, []⟩, ⟨(some 29), 31, .call 29 [((.t 28), 0)], none, []⟩, ⟨(some 30), 32, .call 32 [((.t 27), 0), ((.t 29), 0)], none, []⟩, ⟨(some 31), 33, .un .not (.t 30), none, []⟩])
  (.cond (.t 31)
  (.seq (.ops [⟨(some 2), 4, .mv (.c (.b false)), none, []⟩])
  .ret)
  .skip))
  (.seq (.ops [⟨(some 7), 9, .mv (.c (.i .i64 1)), none, []⟩])
  (.seq (.ops [⟨(some 32), 34, .mv (.t 5), none, []⟩, ⟨(some 33), 35, .mv (.t 7), none, []⟩, ⟨(some 34), 36, .call 33 [((.t 32), 0), ((.t 33), 0)], none, []⟩, ⟨(some 7), 9, .mv (.t 34), none, []⟩])
  (.seq (.seq (.ops [⟨(some 35), 37, .mv (.t 7), none, []⟩, ⟨(some 36), 38, .bin .lss (.t 35) (.c (.i .i64 0)), none, []⟩, ⟨(some 37), 39, .mv (.t 36), none, []⟩, ⟨(some 38), 40, .mv (.t 6), (some (37, false)), []⟩, ⟨(some 39), 41, .mv (.t 4), (some (37, false)), []⟩, ⟨(some 40), 42, .call 31 [((.t 38), 0), ((.t 39), 0)], (some (37, false)), []⟩, ⟨(some 41), 43, .un .not (.t 40), (some (37, false)), []⟩, ⟨(some 42), 44, .pick (.t 37) (.c (.b true)) (.t 41), none, []⟩])
  (.cond (.t 42)
  (.seq (.ops [⟨(some 2), 4, .mv (.c (.b false)), none, []⟩])
  .ret)
  .skip))
  (.seq (.ops [⟨(some 8), 10, .mv (.c (.i .i64 1)), none, []⟩])
  (.seq (.ops [⟨(some 43), 45, .mv (.t 6), none, []⟩, ⟨(some 44), 46, .mv (.t 8), none, []⟩, ⟨(some 45), 47, .call 34 [((.t 43), 0), ((.t 44), 0)], none, []⟩, ⟨(some 8), 10, .mv (.t 45), none, []⟩])
  (.seq (.ops [⟨(some 9), 11, .mv (.c (.i .i64 1)), none, []⟩])
  (.seq (.ops [⟨(some 46), 48, .mv (.t 6), none, []⟩, ⟨(some 47), 49, .mv (.t 9), none, []⟩, ⟨(some 48), 50, .call 35 [((.t 46), 0), ((.t 47), 0)], none, []⟩, ⟨(some 9), 11, .mv (.t 48), none, []⟩])
  (.seq (.seq (.ops [⟨(some 49), 51, .mv (.t 9), none, []⟩, ⟨(some 50), 52, .bin .lss (.t 49) (.c (.i .i64 0)), none, []⟩])
  (.cond (.t 50)
  (.seq (.ops [⟨(some 2), 4, .mv (.c (.b false)), none, []⟩])
  .ret)
  .skip))
  (.seq (.seq (.ops [⟨(some 51), 53, .mv (.t 9), none, []⟩, ⟨(some 52), 54, .mv (.t 8), none, []⟩, ⟨(some 53), 55, .bin .neq (.t 51) (.t 52), none, []⟩])
  (.cond (.t 53)
  (.seq (.ops [⟨(some 2), 4, .mv (.c (.b false)), none, []⟩])
  .ret)
  .skip))
  (.seq (.ops [⟨(some 54), 56, .mv (.t 0), none, []⟩, ⟨(some 55), 57, .call 29 [((.t 54), 0)], none, []⟩, ⟨(some 56), 58, .call 30 [((.t 55), 0)], none, []⟩, ⟨(some 10), 12, .mv (.t 56), none, []⟩])
  (.seq (.seq (.ops [⟨(some 57), 59, .mv (.t 10), none, []⟩, ⟨(some 58), 60, .mv (.t 4), none, []⟩, ⟨(some 59), 61, .call 31 [((.t 57), 0), ((.t 58), 0)], none, []⟩, ⟨(some 60), 62, .un .not (.t 59), none, []⟩])
  (.cond (.t 60)
  (.seq (.ops [⟨(some 2), 4, .mv (.c (.b false)), none, []⟩])
  .ret)
  .skip))
  (.seq (.ops [⟨(some 9), 11, .mv (.c (.i .i64 1)), none, []⟩])
  (.seq (.ops [⟨(some 61), 63, .mv (.t 6), none, []⟩, ⟨(some 62), 64, .mv (.t 9), none, []⟩, ⟨(some 63), 65, .call 35 [((.t 61), 0), ((.t 62), 0)], none, []⟩, ⟨(some 9), 11, .mv (.t 63), none, []⟩])
  (.seq (.seq (.ops [⟨(some 64), 66, .mv (.t 9), none, []⟩, ⟨(some 65), 67, .bin .lss (.t 64) (.c (.i .i64 0)), none, []⟩])
  (.cond (.t 65)
  (.seq (.ops [⟨(some 2), 4, .mv (.c (.b false)), none, []⟩])
  .ret)
  .skip))
  (.seq (.seq (.ops [⟨(some 66), 68, .mv (.t 9), none, []⟩, ⟨(some 67), 69, .mv (.t 8), none, []⟩, ⟨(some 68), 70, .bin .neq (.t 66) (.t 67), none, []⟩])
  (.cond (.t 68)
  (.seq (.ops [⟨(some 2), 4, .mv (.c (.b false)), none, []⟩])
  .ret)
  .skip))
  (.seq (.ops [⟨(some 2), 4, .mv (.c (.b true)), none, []⟩])
  .ret)))))))))))))))))))))))))
theorem k5 : compCode Try.prog Try.f5.ntmps Try.f5.body.get! = some c5 := by kernel_rfl
theorem r5 : resTmps Try.prog Try.f5.results.toList = some [.tmp 2] := by kernel_rfl

def cmps (l : List CellP) : List Int := l.map (·.1)
@[simp] theorem cmps_nil : cmps [] = [] := rfl
@[simp] theorem cmps_len (l : List CellP) : (cmps l).length = l.length := by simp [cmps]
theorem cmps_at {l : List CellP} {c : CellP} {i : Nat} (h : l[i]? = some c) : cmps (l.take (i + 1)) = cmps (l.take i) ++ [c.1] := by
  rw [take_snoc h]; simp [cmps]
def tgt (x : CmdP) : List Int := if x.1 = 1 then cmps x.2.2.2.2 else if x.1 = 3 ∨ x.1 = 4 then [x.2.2.1] else []
def tgL (l : List CmdP) : List Int := l.flatMap tgt
theorem tgL_at {l : List CmdP} {x : CmdP} {j : Nat} (h : l[j]? = some x) : tgL (l.take (j + 1)) = tgL (l.take j) ++ tgt x := by
  rw [take_snoc h]; simp [tgL]
def nC (x : CmdP) : Nat := 1 + x.2.2.2.2.length
theorem tgL_len (l : List CmdP) : (tgL l).length ≤ sumN nC l := by
  induction l with
  | nil => simp [tgL, sumN]
  | cons x l ih =>
    have h1 : tgL (x :: l) = tgt x ++ tgL l := rfl
    have h2 : (tgt x).length ≤ nC x := by
      unfold tgt nC; split
      · simp
      · split <;> simp
    rw [h1, List.length_append]
    simp only [sumN]; omega
theorem w28 (l : List CmdP) (hl : l.length ≤ 2^36) (hs : sumN nC l ≤ 2^38) : Contract Try.prog false 28 [.ro] [.sl false 9 (l.map cmT)] [.sl true 1 ((asc (tgL l)).map iT)] [] := by
  refine mk_contract [] Try.func28 (c := Try.f28.body.get!) (by kernel_rfl) k28 r28 (of_decide_eq_true rfl) fun _ => ?_
  unfold c28; simp
  refine twp_forR l.length (fun j s => s.t 0 = .sl false 9 (l.map cmT) ∧ s.t 4 = .i .i64 j ∧ ((s.t 3 = .rf [(43, 0)] 0 (tgL (l.take j)).length ∧ s.H = lk [(1, []), (43, [.sl true 1 ((tgL (l.take j)).map iT)])]) ∨ (s.t 3 = .rf [(54, 0)] 0 (tgL (l.take j)).length ∧ s.H = lk [(1, []), (43, [.junk]), (54, [.sl true 1 ((tgL (l.take j)).map iT)])]) ∨ (s.t 3 = .rf [(43, 0)] 0 (tgL (l.take j)).length ∧ s.H = lk [(1, []), (43, [.sl true 1 ((tgL (l.take j)).map iT)]), (54, [.junk])]))) [42, 53] [(8, 43)] (by simp) (by simp) ?_ ?_
  · simp [tgL]
  · rintro j s hj ⟨q0, q4, ⟨q3, qH⟩ | ⟨q3, qH⟩ | ⟨q3, qH⟩⟩
    all_goals
      rw [nf_of qH]
      simp [q0, q3, q4]
      refine ⟨fun hlt => ?_, fun hge => ?_⟩
      · have hw : IntKind.i64.wrap (j + 1) = j + 1 := wrap_id (by omega) (by omega)
        obtain ⟨x, hx⟩ := get_some hlt
        have hat := tgL_at hx
        have hlen := tgL_len (l.take (j + 1))
        have hlen2 := sumN_take nC l (j + 1)
        rw [hat, List.length_append] at hlen
        simp [hx, q0, q3, q4]
        by_cases h1 : x.1 = 1
        · have ht : tgt x = cmps x.2.2.2.2 := by unfold tgt; rw [if_pos h1]
          rw [ht] at hat hlen
          simp at hlen
          simp [h1]
          refine twp_for x.2.2.2.2.length (fun i s => s.t 0 = .sl false 9 (l.map cmT) ∧ s.t 4 = .i .i64 j ∧ s.t 5 = .i .i64 i ∧ ((s.t 3 = .rf [(43, 0)] 0 (tgL (l.take j) ++ cmps (x.2.2.2.2.take i)).length ∧ s.H = lk [(1, []), (43, [.sl true 1 ((tgL (l.take j) ++ cmps (x.2.2.2.2.take i)).map iT)])]) ∨ (s.t 3 = .rf [(54, 0)] 0 (tgL (l.take j) ++ cmps (x.2.2.2.2.take i)).length ∧ s.H = lk [(1, []), (43, [.junk]), (54, [.sl true 1 ((tgL (l.take j) ++ cmps (x.2.2.2.2.take i)).map iT)])]) ∨ (s.t 3 = .rf [(43, 0)] 0 (tgL (l.take j) ++ cmps (x.2.2.2.2.take i)).length ∧ s.H = lk [(1, []), (43, [.sl true 1 ((tgL (l.take j) ++ cmps (x.2.2.2.2.take i)).map iT)]), (54, [.junk])]))) [42, 53] (by simp) ?_ ?_
          · simp [q0, q3, q4]
          · rintro i s2 hi ⟨p0, p4, p5, ⟨p3, pH⟩ | ⟨p3, pH⟩ | ⟨p3, pH⟩⟩
            all_goals
              rw [nf_of pH]
              simp [hx, p0, p3, p4, p5]
              refine ⟨fun hlt2 => ?_, fun hge2 => ?_⟩
              · have hwi : IntKind.i64.wrap ((i : Int) + 1) = i + 1 := wrap_id (by omega) (by omega)
                obtain ⟨c, hc⟩ := get_some hlt2
                have hci := cmps_at hc
                simp [hc, p0, p3, p4, p5, hwi, hci]
                refine ⟨by omega, hlt2, ?_⟩
                first | exact .inl (by omega) | exact .inr (by omega)
              · obtain rfl : i = x.2.2.2.2.length := by omega
                rw [List.take_of_length_le (Nat.le_refl _)] at p3
                simp [p0, p3, p4, p5, hw, hat]
                exact hlt
        · by_cases h34 : x.1 = 3 ∨ x.1 = 4
          · have ht : tgt x = [x.2.2.1] := by unfold tgt; rw [if_neg h1, if_pos h34]
            rw [ht] at hat hlen
            simp at hlen
            rcases h34 with h3 | h4
            · simp [h1, h3, hx, q0, q3, q4, hw, hat]
              exact ⟨by omega, hlt⟩
            · simp [h1, h4, hx, q0, q3, q4, hw, hat]
              exact ⟨by omega, hlt⟩
          · have h3 : ¬ x.1 = 3 := fun h => h34 (.inl h)
            have h4 : ¬ x.1 = 4 := fun h => h34 (.inr h)
            have ht : tgt x = [] := by unfold tgt; rw [if_neg h1, if_neg h34]
            rw [ht, List.append_nil] at hat
            simp [h1, h3, h4, hx, q0, q3, q4, hw, hat]
            exact hlt
      · obtain rfl : j = l.length := by omega
        have hlen := tgL_len l
        have hC := w77 (tgL l) (by omega)
        rw [List.take_of_length_le (Nat.le_refl _)] at q3
        simp [q3]
        refine callW_ms [.ro] ?_
        simp
        refine callX_of hC (by simp) ?_
        simp
theorem w30 (l : List CmdP) (hl : l.length ≤ 2^36) (hs : sumN nC l ≤ 2^38) : Contract Try.prog false 30 [.ro] [.sl false 9 (l.map cmT)] [.sl true 1 ((asc (tgL l)).map iT)] [] := by
  refine mk_contract [] Try.func30 (c := Try.f30.body.get!) (by kernel_rfl) k30 r30 (of_decide_eq_true rfl) fun _ => ?_
  unfold c30; simp
  refine twp_forR l.length (fun j s => s.t 9 = .sl false 9 (l.map cmT) ∧ s.t 10 = .i .i64 l.length ∧ s.t 11 = .i .i64 j ∧ ((s.t 3 = .rf [(32, 0)] 0 (tgL (l.take j)).length ∧ s.H = lk [(1, []), (32, [.sl true 1 ((tgL (l.take j)).map iT)])]) ∨ (s.t 3 = .rf [(41, 0)] 0 (tgL (l.take j)).length ∧ s.H = lk [(1, []), (32, [.junk]), (41, [.sl true 1 ((tgL (l.take j)).map iT)])]) ∨ (s.t 3 = .rf [(32, 0)] 0 (tgL (l.take j)).length ∧ s.H = lk [(1, []), (32, [.sl true 1 ((tgL (l.take j)).map iT)]), (41, [.junk])]))) [7, 9, 31, 40] [(10, 32)] (by simp) (by simp) ?_ ?_
  · simp [tgL]
  · rintro j s hj ⟨q9, q10, q11, ⟨q3, qH⟩ | ⟨q3, qH⟩ | ⟨q3, qH⟩⟩
    all_goals
      rw [nf_of qH]
      simp [q3, q9, q10, q11]
      refine ⟨fun hlt => ?_, fun hge => ?_⟩
      · have hw : IntKind.i64.wrap (j + 1) = j + 1 := wrap_id (by omega) (by omega)
        obtain ⟨x, hx⟩ := get_some hlt
        have hat := tgL_at hx
        have hlen := tgL_len (l.take (j + 1))
        have hlen2 := sumN_take nC l (j + 1)
        rw [hat, List.length_append] at hlen
        simp [hx, q3, q9, q10, q11]
        by_cases h1 : x.1 = 1
        · have ht : tgt x = cmps x.2.2.2.2 := by unfold tgt; rw [if_pos h1]
          rw [ht] at hat hlen
          simp at hlen
          simp [h1, q3, q9, q10, q11]
          refine twp_for x.2.2.2.2.length (fun i s => s.t 9 = .sl false 9 (l.map cmT) ∧ s.t 10 = .i .i64 l.length ∧ s.t 11 = .i .i64 j ∧ s.t 5 = .pt [(7, 0)] 0 0 ∧ s.t 20 = .sl false 5 (x.2.2.2.2.map clT) ∧ s.t 21 = .i .i64 x.2.2.2.2.length ∧ s.t 22 = .i .i64 i ∧ ((s.t 3 = .rf [(32, 0)] 0 (tgL (l.take j) ++ cmps (x.2.2.2.2.take i)).length ∧ s.H = lk [(1, []), (32, [.sl true 1 ((tgL (l.take j) ++ cmps (x.2.2.2.2.take i)).map iT)]), (7, [.po true (cmT x)])]) ∨ (s.t 3 = .rf [(41, 0)] 0 (tgL (l.take j) ++ cmps (x.2.2.2.2.take i)).length ∧ s.H = lk [(1, []), (32, [.junk]), (41, [.sl true 1 ((tgL (l.take j) ++ cmps (x.2.2.2.2.take i)).map iT)]), (7, [.po true (cmT x)])]) ∨ (s.t 3 = .rf [(32, 0)] 0 (tgL (l.take j) ++ cmps (x.2.2.2.2.take i)).length ∧ s.H = lk [(1, []), (32, [.sl true 1 ((tgL (l.take j) ++ cmps (x.2.2.2.2.take i)).map iT)]), (41, [.junk]), (7, [.po true (cmT x)])]))) [9, 31] (by simp) ?_ ?_
          · simp [q3, q9, q10, q11, h1]
          · rintro i s2 hi ⟨p9, p10, p11, p5, p20, p21, p22, ⟨p3, pH⟩ | ⟨p3, pH⟩ | ⟨p3, pH⟩⟩
            all_goals
              rw [nf_of pH]
              simp [hx, p3, p5, p9, p10, p11, p20, p21, p22]
              refine ⟨fun hlt2 => ?_, fun hge2 => ?_⟩
              · have hwi : IntKind.i64.wrap ((i : Int) + 1) = i + 1 := wrap_id (by omega) (by omega)
                obtain ⟨c, hc⟩ := get_some hlt2
                have hci := cmps_at hc
                simp [hc, p3, p5, p9, p10, p11, p20, p21, p22, hwi, hci, h1]
                refine ⟨by omega, hlt2, ?_⟩
                first | exact .inl (by omega) | exact .inr (by omega)
              · obtain rfl : i = x.2.2.2.2.length := by omega
                rw [List.take_of_length_le (Nat.le_refl _)] at p3
                simp [p3, p5, p9, p10, p11, p20, p21, p22, hw, hat]
                exact hlt
        · by_cases h34 : x.1 = 3 ∨ x.1 = 4
          · have ht : tgt x = [x.2.2.1] := by unfold tgt; rw [if_neg h1, if_pos h34]
            rw [ht] at hat hlen
            simp at hlen
            rcases h34 with h3 | h4
            · simp [h1, h3, hx, q3, q9, q10, q11, hw, hat]
              exact ⟨by omega, hlt⟩
            · simp [h1, h4, hx, q3, q9, q10, q11, hw, hat]
              exact ⟨by omega, hlt⟩
          · have h3 : ¬ x.1 = 3 := fun h => h34 (.inl h)
            have h4 : ¬ x.1 = 4 := fun h => h34 (.inr h)
            have ht : tgt x = [] := by unfold tgt; rw [if_neg h1, if_neg h34]
            rw [ht, List.append_nil] at hat
            simp [h1, h3, h4, hx, q3, q9, q10, q11, hw, hat]
            exact hlt
      · obtain rfl : j = l.length := by omega
        have hlen := tgL_len l
        have hC := w78 (tgL l) (by omega)
        rw [List.take_of_length_le (Nat.le_refl _)] at q3
        simp [q3]
        refine callW_ms [.own] ?_
        simp
        refine callX_of hC (by simp) ?_
        simp
theorem w79 (l : List CellP) (k : Int) (hl : l.length ≤ 2^36) (hk : 0 ≤ k) (hk2 : k + 5 * l.length ≤ 2^40) : ∃ x : List CellP, (x.length = l.length) ∧ Contract Try.prog false 79 [.own, .ro] [.sl true 5 (l.map clT), .i .i64 k] [.i .i64 (k + 5 * l.length)] [some (.sl true 5 (x.map clT))] := by
  refine mk_contractE [some [(1, 0)]] Try.func79 (c := Try.f79.body.get!) (by kernel_rfl) k79 r79 (of_decide_eq_true rfl) ?_
  unfold c79; simp
  refine twp_for l.length (fun j s => ∃ x : List CellP, x.length = j ∧ s.t 0 = .rf [(1, 0)] 0 l.length ∧ s.t 1 = .i .i64 (k + 5 * j) ∧ s.t 5 = .i .i64 j ∧ s.H = lk [(1, [.sl true 5 (x.map clT ++ (l.map clT).drop j)])]) [] (by simp) ?_ ?_
  · exact ⟨[], rfl, by simp, by simp, by simp, by simp⟩
  · rintro j s hj ⟨X, hX, q0, q1, q5, qH⟩
    rw [nf_of qH]
    simp [q0, q1, q5]
    refine ⟨fun hlt => ?_, fun hge => ?_⟩
    · have hw : IntKind.i64.wrap (j + 1) = j + 1 := wrap_id (by omega) (by omega)
      obtain ⟨x, hx⟩ := get_some hlt
      have w1 : IntKind.i64.wrap (k + 5 * j + 1) = k + 5 * j + 1 := wrap_id (by omega) (by omega)
      have w2 : IntKind.i64.wrap (k + 5 * j + 1 + 1) = k + 5 * j + 2 := by rw [wrap_id (by omega) (by omega)]; omega
      have w3 : IntKind.i64.wrap (k + 5 * j + 2 + 1) = k + 5 * j + 3 := by rw [wrap_id (by omega) (by omega)]; omega
      have w4 : IntKind.i64.wrap (k + 5 * j + 3 + 1) = k + 5 * j + 4 := by rw [wrap_id (by omega) (by omega)]; omega
      have w5 : IntKind.i64.wrap (k + 5 * j + 4 + 1) = k + 5 * (j + 1) := by rw [wrap_id (by omega) (by omega)]; omega
      have hf : ∀ n, canon (FloatKind.f64.nearest n) = flI n := fun _ => rfl
      simp [hw, w1, w2, w3, w4, w5, hf, q0, q1, q5, drop_at hx, hX]
      exact ⟨hlt, X ++ [(k + 5 * j, k + 5 * j + 1, k + 5 * j + 2, flI (k + 5 * j + 3), flI (k + 5 * j + 4))], by simp [hX], by simp⟩
    · obtain rfl : j = l.length := by omega
      refine exK_of X hX ?_
      simp [q0, q1, q5, hX]
def nM (x : CmdP) : Nat := 8 + 5 * x.2.2.2.2.length
set_option maxRecDepth 100000 in
theorem w33 (l : List CmdP) (k : Int) (hl : l.length ≤ 2^36) (hd : ∀ x ∈ l, x.2.2.2.2.length ≤ 2^36) (hk : 0 ≤ k) (hk2 : k + sumN nM l ≤ 2^40) : ∃ x : List CmdP, (x.length = l.length) ∧ Contract Try.prog false 33 [.own, .ro] [.sl true 9 (l.map cmO), .i .i64 k] [.i .i64 (k + sumN nM l)] [some (.sl true 9 (x.map cmO))] := by
  refine mk_contractE [some [(1, 0)]] Try.func33 (c := Try.f33.body.get!) (by kernel_rfl) k33 r33 (of_decide_eq_true rfl) ?_
  unfold c33; simp
  refine twp_for l.length (fun j s => ∃ x : List CmdP, x.length = j ∧ s.t 0 = .rf [(1, 0)] 0 l.length ∧ s.t 1 = .i .i64 (k + sumN nM (l.take j)) ∧ s.t 5 = .i .i64 j ∧ s.H = lk [(1, [.sl true 9 (x.map cmO ++ (l.map cmO).drop j)])]) [] (by simp) ?_ ?_
  · exact ⟨[], rfl, by simp, by simp [sumN], by simp, by simp⟩
  · rintro j s hj ⟨X, hX, q0, q1, q5, qH⟩
    rw [nf_of qH]
    simp [q0, q1, q5]
    refine ⟨fun hlt => ?_, fun hge => ?_⟩
    · have hw : IntKind.i64.wrap (j + 1) = j + 1 := wrap_id (by omega) (by omega)
      obtain ⟨x, hx⟩ := get_some hlt
      have hs : sumN nM (l.take (j + 1)) = sumN nM (l.take j) + (8 + 5 * x.2.2.2.2.length) := sumN_at hx
      have hle := sumN_take nM l (j + 1)
      have hxl := hd x (List.mem_of_getElem? hx)
      have hb : 0 ≤ k + sumN nM (l.take j) ∧ k + sumN nM (l.take j) + 8 + 5 * x.2.2.2.2.length ≤ 2^40 := by omega
      generalize hm : k + (sumN nM (l.take j) : Int) = m at *
      have w1 : IntKind.i64.wrap (m + 1) = m + 1 := wrap_id (by omega) (by omega)
      have w2 : IntKind.i64.wrap (m + 1 + 1) = m + 2 := by rw [wrap_id (by omega) (by omega)]; omega
      have w3 : IntKind.i64.wrap (m + 2 + 1) = m + 3 := by rw [wrap_id (by omega) (by omega)]; omega
      have w4 : IntKind.i64.wrap (m + 3 + 1) = m + 4 := by rw [wrap_id (by omega) (by omega)]; omega
      have w5 : IntKind.i64.wrap (m + 4 + 1) = m + 5 := by rw [wrap_id (by omega) (by omega)]; omega
      have w6 : IntKind.i64.wrap (m + 5 + 1) = m + 6 := by rw [wrap_id (by omega) (by omega)]; omega
      have w7 : IntKind.i64.wrap (m + 6 + 1) = m + 7 := by rw [wrap_id (by omega) (by omega)]; omega
      have w8 : IntKind.i64.wrap (m + 7 + 1) = m + 8 := by rw [wrap_id (by omega) (by omega)]; omega
      have hf : ∀ n, canon (FloatKind.f64.nearest n) = flI n := fun _ => rfl
      simp [hw, w1, w2, w3, w4, w5, w6, w7, w8, hf, q0, q1, q5, drop_at hx, hX]
      refine ⟨hlt, ?_⟩
      obtain ⟨C, hCl, hC⟩ := w79 x.2.2.2.2 (m + 8) hxl (by omega) (by omega)
      refine callW_ms [.own, .ro] ?_
      simp [hX]
      refine callX_of hC (by simp) ?_
      simp [hw, q0, q1, q5, hX, hCl, hs]
      exact ⟨hlt, X ++ [(m, (m + 1, m + 2), m + 3, (m + 4, m + 5, flI (m + 6), flI (m + 7)), C)], by simp [hX], by omega, by simp⟩
    · obtain rfl : j = l.length := by omega
      refine exK_of X hX ?_
      simp [q0, q1, q5, hX]
theorem w5 (l : List CmdP) (hl : l.length < 2^63) (hd : ∀ x ∈ l, x.2.2.2.2.length < 2^63) : Contract Try.prog false 5 [.ro] [.sl false 9 (l.map cmT)] [.b true] [] := by
  refine mk_contract [] Try.func5 (c := Try.f5.body.get!) (by kernel_rfl) k5 r5 (of_decide_eq_true rfl) fun _ => ?_
  unfold c5; simp
  refine callW_ms [.ro, .ro] ?_
  simp
  refine callX_of (w27 l _ hl hd (by omega) (by omega)) (by simp) ?_
  simp
  intro h
  obtain ⟨h1, h2, h3⟩ := szCms_ok (by omega) (by omega) (by omega : ¬ szS szCmF l 1048576 < 0)
  have h2' : ∀ x ∈ l, x.2.2.2.2.length ≤ 2^40 := fun x hx => by have := h2 x hx; omega
  have e1 : sumN nC l = l.length + sumN (fun x : CmdP => x.2.2.2.2.length) l := by
    clear h h1 h2 h3 h2' hl hd
    induction l with
    | nil => rfl
    | cons x l ih => simp only [sumN, nC, List.length_cons] at ih ⊢; omega
  have e2 : sumN nM l = 8 * l.length + 5 * sumN (fun x : CmdP => x.2.2.2.2.length) l := by
    clear h h1 h2 h3 h2' hl hd e1
    induction l with
    | nil => rfl
    | cons x l ih => simp only [sumN, nM, List.length_cons] at ih ⊢; omega
  have hS := w28 l h1 (by omega)
  have hI := w30 l h1 (by omega)
  have ht := tgL_len l
  have ha := asc_len (tgL l)
  generalize asc (tgL l) = m at *
  refine callW_ms [.ro] ?_
  simp
  refine callX_of (w29 l h1 h2') (by simp) ?_
  simp
  refine callW_ms [.ro] ?_
  simp
  refine callX_of hS (by simp) ?_
  simp
  refine callW_ms [.ro] ?_
  simp
  refine callX_of (w29 l h1 h2') (by simp) ?_
  simp
  refine callW_ms [.ro] ?_
  simp
  refine callX_of hI (by simp) ?_
  simp
  refine callW_ms [.ro, .ro] ?_
  simp
  refine callX_of (w31 m m (by omega) (by omega)) (by simp) ?_
  simp
  refine callW_ms [.ro] ?_
  simp
  refine callX_of (w29 l h1 h2') (by simp) ?_
  simp
  refine callW_ms [.ro, .ro] ?_
  simp
  refine callX_of (w32 l (by omega) h2') (by simp) ?_
  simp
  have hk1 : ¬ (1 + (sumN nM l : Int) < 0) := by omega
  obtain ⟨X, hX, hC⟩ := w33 l 1 h1 h2 (by omega) (by omega)
  refine callW_ms [.own, .ro] ?_
  simp
  refine callX_of hC (by simp) ?_
  simp [hX, hk1]
  refine callW_ms [.ro, .ro] ?_
  simp
  refine callX_of (w31 m m (by omega) (by omega)) (by simp) ?_
  simp
  refine callW_ms [.own, .ro] ?_
  simp
  refine callX_of (w34 m 1 (by omega) (by omega) (by omega)) (by simp) ?_
  simp
  refine callW_ms [.ro, .ro] ?_
  simp
  refine callX_of (W35 m.length 1 (by omega) (by omega) (by omega)) (by simp) ?_
  simp
  refine ⟨by omega, fun _ => ?_⟩
  refine callW_ms [.ro] ?_
  simp
  refine callX_of (w29 l h1 h2') (by simp) ?_
  simp
  refine callW_ms [.ro] ?_
  simp
  refine callX_of hI (by simp) ?_
  simp
  refine callW_ms [.ro, .ro] ?_
  simp
  refine callX_of (w31 m m (by omega) (by omega)) (by simp) ?_
  simp
  refine callW_ms [.ro, .ro] ?_
  simp
  refine callX_of (W35 m.length 1 (by omega) (by omega) (by omega)) (by simp) ?_
  simp
  omega
end Go.Proofs.YtmedelmfkciblaaT
