/- WorldSame. -/
import Derived.Test.YtmedelmfkciblaaKx1
import Derived.Test.YtmedelmfkciblaaKt1
import Derived.Test.YtmedelmfkciblaaKw2
namespace Go.Proofs.YtmedelmfkciblaaT
set_option linter.unusedVariables false
set_option linter.unusedSimpArgs false
open Go

/- spec.l4SameVals -/
def c116 : TCode := (.seq (.ops [⟨(some 4), 6, .mv (.c (.b false)), none, []⟩])
  (.seq (.seq (.ops [⟨(some 6), 8, .mv (.t 0), none, []⟩, ⟨(some 7), 9, .len false (.t 6), none, []⟩, ⟨(some 8), 10, .mv (.t 1), none, []⟩, ⟨(some 9), 11, .len false (.t 8), none, []⟩, ⟨(some 10), 12, .bin .neq (.t 7) (.t 9), none, []⟩])
  (.cond (.t 10)
  (.seq (.ops [⟨(some 4), 6, .mv (.c (.b false)), none, []⟩])
  .ret)
  .skip))
  (.seq (.seq (.ops [⟨(some 5), 7, .mv (.c (.i .i64 0)), none, []⟩])
  (.block 0 (.loop (.seq (.seq (.ops [⟨(some 11), 13, .mv (.t 5), none, []⟩, ⟨(some 12), 14, .mv (.t 0), none, []⟩, ⟨(some 13), 15, .len false (.t 12), none, []⟩, ⟨(some 14), 16, .bin .lss (.t 11) (.t 13), none, []⟩])
  (.cond (.t 14)
  .skip
  (.exit 0)))
  (.seq (.block 1 (.seq (.draw [⟨(some 17), 19, .mv (.t 0), none, []⟩, ⟨(some 18), 20, .mv (.t 5), none, []⟩, ⟨(some 19), 21, .iaddr 4 (.t 17) (.t 18), none, []⟩, ⟨(some 20), 22, .load true 4 (.t 19), none, []⟩, ⟨(some 21), 23, .mv (.t 1), none, []⟩, ⟨(some 22), 24, .mv (.t 5), none, []⟩, ⟨(some 23), 25, .iaddr 4 (.t 21) (.t 22), none, []⟩, ⟨(some 24), 26, .load true 4 (.t 23), none, []⟩, ⟨(some 25), 27, .call 164 [((.t 20), 0), ((.t 24), 0)], none, []⟩, ⟨(some 26), 28, .un .not (.t 25), none, []⟩])
  (.cond (.t 26)
  (.seq (.ops [⟨(some 4), 6, .mv (.c (.b false)), none, []⟩])
  .ret)
  .skip)))
  (.ops [⟨(some 15), 17, .mv (.t 5), none, []⟩, ⟨(some 16), 18, .bin .add (.t 15) (.c (.i .i64 1)), none, []⟩, ⟨(some 5), 7, .mv (.t 16), none, []⟩]))))))
  (.seq (.ops [⟨(some 4), 6, .mv (.c (.b true)), none, []⟩])
  .ret))))
theorem k116 : compCode Try.prog Try.f116.ntmps Try.f116.body.get! = some c116 := by kernel_rfl
theorem r116 : resTmps Try.prog Try.f116.results.toList = some [.tmp 4] := by kernel_rfl
/- spec.l4SameEnts -/
def c117 : TCode := (.seq (.ops [⟨(some 4), 6, .mv (.c (.b false)), none, []⟩])
  (.seq (.seq (.ops [⟨(some 6), 8, .mv (.t 0), none, []⟩, ⟨(some 7), 9, .len false (.t 6), none, []⟩, ⟨(some 8), 10, .mv (.t 1), none, []⟩, ⟨(some 9), 11, .len false (.t 8), none, []⟩, ⟨(some 10), 12, .bin .neq (.t 7) (.t 9), none, []⟩])
  (.cond (.t 10)
  (.seq (.ops [⟨(some 4), 6, .mv (.c (.b false)), none, []⟩])
  .ret)
  .skip))
  (.seq (.seq (.ops [⟨(some 5), 7, .mv (.c (.i .i64 0)), none, []⟩])
  (.block 0 (.loop (.seq (.seq (.ops [⟨(some 11), 13, .mv (.t 5), none, []⟩, ⟨(some 12), 14, .mv (.t 0), none, []⟩, ⟨(some 13), 15, .len false (.t 12), none, []⟩, ⟨(some 14), 16, .bin .lss (.t 11) (.t 13), none, []⟩])
  (.cond (.t 14)
  .skip
  (.exit 0)))
  (.seq (.block 1 (.seq (.draw [⟨(some 17), 19, .mv (.t 0), none, []⟩, ⟨(some 18), 20, .mv (.t 5), none, []⟩, ⟨(some 19), 21, .iaddr 2 (.t 17) (.t 18), none, []⟩, ⟨(some 20), 22, .load true 2 (.t 19), none, []⟩, ⟨(some 21), 23, .mv (.t 1), none, []⟩, ⟨(some 22), 24, .mv (.t 5), none, []⟩, ⟨(some 23), 25, .iaddr 2 (.t 21) (.t 22), none, []⟩, ⟨(some 24), 26, .load true 2 (.t 23), none, []⟩, ⟨(some 25), 27, .eqs true true [.i, .i] (.t 20) (.t 24), none, []⟩])
  (.cond (.t 25)
  (.seq (.ops [⟨(some 4), 6, .mv (.c (.b false)), none, []⟩])
  .ret)
  .skip)))
  (.ops [⟨(some 15), 17, .mv (.t 5), none, []⟩, ⟨(some 16), 18, .bin .add (.t 15) (.c (.i .i64 1)), none, []⟩, ⟨(some 5), 7, .mv (.t 16), none, []⟩]))))))
  (.seq (.ops [⟨(some 4), 6, .mv (.c (.b true)), none, []⟩])
  .ret))))
theorem k117 : compCode Try.prog Try.f117.ntmps Try.f117.body.get! = some c117 := by kernel_rfl
theorem r117 : resTmps Try.prog Try.f117.results.toList = some [.tmp 4] := by kernel_rfl
/- slices.Equal[[]impl.Ent,impl.Ent] -/
def c122 : TCode := (.seq (.ops [⟨(some 4), 6, .mv (.c (.b false)), none, []⟩])
  (.seq (.seq (.ops [⟨(some 6), 8, .mv (.t 0), none, []⟩, ⟨(some 7), 9, .len false (.t 6), none, []⟩, ⟨(some 8), 10, .mv (.t 1), none, []⟩, ⟨(some 9), 11, .len false (.t 8), none, []⟩, ⟨(some 10), 12, .bin .neq (.t 7) (.t 9), none, []⟩])
  (.cond (.t 10)
  (.seq (.ops [⟨(some 4), 6, .mv (.c (.b false)), none, []⟩])
  .ret)
  .skip))
  (.seq (.seq (.ops [⟨(some 11), 13, .mv (.t 0), none, []⟩, ⟨(some 12), 14, .len false (.t 11), none, []⟩, ⟨(some 13), 15, .mv (.c (.i .i64 0)), none, []⟩])
  (.block 0 (.loop (.seq (.ops [⟨(some 14), 16, .bin .lss (.t 13) (.t 12), none, []⟩])
  (.seq (.cond (.t 14)
  .skip
  (.exit 0))
  (.seq (.block 1 (.seq (.ops [⟨(some 15), 17, .mv (.t 13), none, []⟩, ⟨(some 5), 7, .mv (.t 15), none, []⟩])
  (.seq (.draw [⟨(some 16), 18, .mv (.t 0), none, []⟩, ⟨(some 17), 19, .mv (.t 5), none, []⟩, ⟨(some 18), 20, .iaddr 2 (.t 16) (.t 17), none, []⟩, ⟨(some 19), 21, .load true 2 (.t 18), none, []⟩, ⟨(some 20), 22, .mv (.t 1), none, []⟩, ⟨(some 21), 23, .mv (.t 5), none, []⟩, ⟨(some 22), 24, .iaddr 2 (.t 20) (.t 21), none, []⟩, ⟨(some 23), 25, .load true 2 (.t 22), none, []⟩, ⟨(some 24), 26, .eqs true true [.i, .i] (.t 19) (.t 23), none, []⟩])
  (.cond (.t 24)
  (.seq (.ops [⟨(some 4), 6, .mv (.c (.b false)), none, []⟩])
  .ret)
  .skip))))
  (.ops [⟨(some 25), 27, .bin .add (.t 13) (.c (.i .i64 1)), none, []⟩, ⟨(some 13), 15, .mv (.t 25), none, []⟩])))))))
  (.seq (.ops [⟨(some 4), 6, .mv (.c (.b true)), none, []⟩])
  .ret))))
theorem k122 : compCode Try.prog Try.f122.ntmps Try.f122.body.get! = some c122 := by kernel_rfl
theorem r122 : resTmps Try.prog Try.f122.results.toList = some [.tmp 4] := by kernel_rfl
/- slices.EqualFunc[[]impl.Val,[]impl.Val,impl.Val,impl.Val] -/
def c165 : TCode := (.seq (.ops [⟨(some 6), 8, .mv (.c (.b false)), none, []⟩])
  (.seq (.seq (.ops [⟨(some 10), 12, .mv (.t 0), none, []⟩, ⟨(some 11), 13, .len false (.t 10), none, []⟩, ⟨(some 12), 14, .mv (.t 1), none, []⟩, ⟨(some 13), 15, .len false (.t 12), none, []⟩, ⟨(some 14), 16, .bin .neq (.t 11) (.t 13), none, []⟩])
  (.cond (.t 14)
  (.seq (.ops [⟨(some 6), 8, .mv (.c (.b false)), none, []⟩])
  .ret)
  .skip))
  (.seq (.seq (.ops [⟨(some 15), 17, .mv (.t 0), none, []⟩, ⟨(some 16), 18, .len false (.t 15), none, []⟩, ⟨(some 17), 19, .mv (.c (.i .i64 0)), none, []⟩])
  (.block 0 (.loop (.seq (.ops [⟨(some 18), 20, .bin .lss (.t 17) (.t 16), none, []⟩])
  (.seq (.cond (.t 18)
  .skip
  (.exit 0))
  (.seq (.block 1 (.seq (.ops [⟨(some 19), 21, .mv (.t 17), none, []⟩, ⟨(some 20), 22, .iaddr 4 (.t 15) (.t 17), none, []⟩, ⟨(some 21), 23, .load true 4 (.t 20), none, []⟩, ⟨(some 8), 10, .box 4 (.c (.ag [(.i .i64 0), (.i .i64 0), (.f 0), (.f 0)])), none, []⟩, ⟨(some 7), 9, .mv (.t 19), none, []⟩, ⟨none, 1005005, .store 4 (.t 8) (.t 21), none, []⟩])
  (.seq (.ops [⟨(some 22), 24, .mv (.t 1), none, []⟩, ⟨(some 23), 25, .mv (.t 7), none, []⟩, ⟨(some 24), 26, .iaddr 4 (.t 22) (.t 23), none, []⟩, ⟨(some 25), 27, .load true 4 (.t 24), none, []⟩, ⟨(some 9), 11, .box 4 (.c (.ag [(.i .i64 0), (.i .i64 0), (.f 0), (.f 0)])), none, []⟩, ⟨none, 1006005, .store 4 (.t 9) (.t 25), none, []⟩])
  (.seq (.ops [⟨(some 26), 28, .mv (.t 2), none, []⟩, ⟨(some 27), 29, .load true 4 (.t 8), none, []⟩, ⟨(some 28), 30, .load true 4 (.t 9), none, []⟩, ⟨(some 29), 31, .callv (.t 26) [((.t 27), 0), ((.t 28), 0)], none, []⟩, ⟨(some 30), 32, .un .not (.t 29), none, []⟩])
  (.cond (.t 30)
  (.seq (.ops [⟨(some 6), 8, .mv (.c (.b false)), none, []⟩])
  .ret)
  .skip)))))
  (.ops [⟨(some 31), 33, .bin .add (.t 17) (.c (.i .i64 1)), none, []⟩, ⟨(some 17), 19, .mv (.t 31), none, []⟩])))))))
  (.seq (.ops [⟨(some 6), 8, .mv (.c (.b true)), none, []⟩])
  .ret))))
theorem k165 : compCode Try.prog Try.f165.ntmps Try.f165.body.get! = some c165 := by kernel_rfl
theorem r165 : resTmps Try.prog Try.f165.results.toList = some [.tmp 6] := by kernel_rfl
/- impl.sameVals -/
def c119 : TCode := (.seq (.ops [⟨(some 4), 6, .mv (.c (.b false)), none, []⟩])
  (.seq (.ops [⟨(some 5), 7, .mv (.t 0), none, []⟩, ⟨(some 6), 8, .mv (.t 1), none, []⟩, ⟨(some 7), 9, .call 165 [((.t 5), 0), ((.t 6), 0), ((.c (.fn 166 [])), 0)], none, []⟩, ⟨(some 4), 6, .mv (.t 7), none, []⟩])
  .ret))
theorem k119 : compCode Try.prog Try.f119.ntmps Try.f119.body.get! = some c119 := by kernel_rfl
theorem r119 : resTmps Try.prog Try.f119.results.toList = some [.tmp 4] := by kernel_rfl
/- slices.EqualFunc[[][]impl.Val,[][]impl.Val,[]impl.Val,[]impl.Val] -/
def c123 : TCode := (.seq (.ops [⟨(some 6), 8, .mv (.c (.b false)), none, []⟩])
  (.seq (.seq (.ops [⟨(some 10), 12, .mv (.t 0), none, []⟩, ⟨(some 11), 13, .len false (.t 10), none, []⟩, ⟨(some 12), 14, .mv (.t 1), none, []⟩, ⟨(some 13), 15, .len false (.t 12), none, []⟩, ⟨(some 14), 16, .bin .neq (.t 11) (.t 13), none, []⟩])
  (.cond (.t 14)
  (.seq (.ops [⟨(some 6), 8, .mv (.c (.b false)), none, []⟩])
  .ret)
  .skip))
  (.seq (.seq (.ops [⟨(some 15), 17, .mv (.t 0), none, []⟩, ⟨(some 16), 18, .len false (.t 15), none, []⟩, ⟨(some 17), 19, .mv (.c (.i .i64 0)), none, []⟩])
  (.block 0 (.loop (.seq (.ops [⟨(some 18), 20, .bin .lss (.t 17) (.t 16), none, []⟩])
  (.seq (.cond (.t 18)
  .skip
  (.exit 0))
  (.seq (.block 1 (.seq (.ops [⟨(some 19), 21, .mv (.t 17), none, []⟩, ⟨(some 20), 22, .iaddr 1 (.t 15) (.t 17), none, []⟩, ⟨(some 21), 23, .load false 1 (.t 20), none, []⟩, ⟨(some 7), 9, .mv (.t 19), none, []⟩, ⟨(some 8), 10, .mv (.t 21), none, []⟩])
  (.seq (.ops [⟨(some 22), 24, .mv (.t 1), none, []⟩, ⟨(some 23), 25, .mv (.t 7), none, []⟩, ⟨(some 24), 26, .iaddr 1 (.t 22) (.t 23), none, []⟩, ⟨(some 25), 27, .load false 1 (.t 24), none, []⟩, ⟨(some 9), 11, .mv (.t 25), none, []⟩])
  (.seq (.ops [⟨(some 26), 28, .mv (.t 2), none, []⟩, ⟨(some 27), 29, .mv (.t 8), none, []⟩, ⟨(some 28), 30, .mv (.t 9), none, []⟩, ⟨(some 29), 31, .callv (.t 26) [((.t 27), 0), ((.t 28), 0)], none, []⟩, ⟨(some 30), 32, .un .not (.t 29), none, []⟩])
  (.cond (.t 30)
  (.seq (.ops [⟨(some 6), 8, .mv (.c (.b false)), none, []⟩])
  .ret)
  .skip)))))
  (.ops [⟨(some 31), 33, .bin .add (.t 17) (.c (.i .i64 1)), none, []⟩, ⟨(some 17), 19, .mv (.t 31), none, []⟩])))))))
  (.seq (.ops [⟨(some 6), 8, .mv (.c (.b true)), none, []⟩])
  .ret))))
theorem k123 : compCode Try.prog Try.f123.ntmps Try.f123.body.get! = some c123 := by kernel_rfl
theorem r123 : resTmps Try.prog Try.f123.results.toList = some [.tmp 6] := by kernel_rfl
/- impl.WorldSame$1 -/
def c121 : TCode := (.seq (.ops [⟨(some 2), 4, .box 3 (.t 0), none, []⟩, ⟨(some 3), 5, .box 3 (.t 1), none, []⟩, ⟨(some 4), 6, .mv (.c (.b false)), none, []⟩])
  (.seq (.ops [⟨(some 5), 7, .faddr 0 1 (.t 2), none, []⟩, ⟨(some 6), 8, .load false 1 (.t 5), none, []⟩, ⟨(some 7), 9, .faddr 0 1 (.t 3), none, []⟩, ⟨(some 8), 10, .load false 1 (.t 7), none, []⟩, ⟨(some 9), 11, .call 118 [((.t 6), 0), ((.t 8), 0)], none, []⟩, ⟨(some 10), 12, .mv (.t 9), none, []⟩, ⟨(some 11), 13, .faddr 1 1 (.t 2), (some (10, true)), []⟩, ⟨(some 12), 14, .load false 1 (.t 11), (some (10, true)), []⟩, ⟨(some 13), 15, .faddr 1 1 (.t 3), (some (10, true)), []⟩, ⟨(some 14), 16, .load false 1 (.t 13), (some (10, true)), []⟩, ⟨(some 15), 17, .call 122 [((.t 12), 0), ((.t 14), 0)], (some (10, true)), []⟩, ⟨(some 16), 18, .pick (.t 10) (.t 15) (.c (.b false)), none, []⟩, ⟨(some 17), 19, .mv (.t 16), none, []⟩, ⟨(some 18), 20, .faddr 2 1 (.t 2), (some (17, true)), []⟩, ⟨(some 19), 21, .load false 1 (.t 18), (some (17, true)), []⟩, ⟨(some 20), 22, .faddr 2 1 (.t 3), (some (17, true)), []⟩, ⟨(some 21), 23, .load false 1 (.t 20), (some (17, true)), []⟩, ⟨(some 22), 24, .call 123 [((.t 19), 0), ((.t 21), 0), ((.c (.fn 119 [])), 0)], (some (17, true)), []⟩, ⟨(some 23), 25, .pick (.t 17) (.t 22) (.c (.b false)), none, []⟩, ⟨(some 4), 6, .mv (.t 23), none, []⟩])
  .ret))
theorem k121 : compCode Try.prog Try.f121.ntmps Try.f121.body.get! = some c121 := by kernel_rfl
theorem r121 : resTmps Try.prog Try.f121.results.toList = some [.tmp 4] := by kernel_rfl
/- slices.EqualFunc[[]impl.Table,[]impl.Table,impl.Table,impl.Table] -/
def c120 : TCode := (.seq (.ops [⟨(some 6), 8, .mv (.c (.b false)), none, []⟩])
  (.seq (.seq (.ops [⟨(some 10), 12, .mv (.t 0), none, []⟩, ⟨(some 11), 13, .len false (.t 10), none, []⟩, ⟨(some 12), 14, .mv (.t 1), none, []⟩, ⟨(some 13), 15, .len false (.t 12), none, []⟩, ⟨(some 14), 16, .bin .neq (.t 11) (.t 13), none, []⟩])
  (.cond (.t 14)
  (.seq (.ops [⟨(some 6), 8, .mv (.c (.b false)), none, []⟩])
  .ret)
  .skip))
  (.seq (.seq (.ops [⟨(some 15), 17, .mv (.t 0), none, []⟩, ⟨(some 16), 18, .len false (.t 15), none, []⟩, ⟨(some 17), 19, .mv (.c (.i .i64 0)), none, []⟩])
  (.block 0 (.loop (.seq (.ops [⟨(some 18), 20, .bin .lss (.t 17) (.t 16), none, []⟩])
  (.seq (.cond (.t 18)
  .skip
  (.exit 0))
  (.seq (.block 1 (.seq (.ops [⟨(some 19), 21, .mv (.t 17), none, []⟩, ⟨(some 20), 22, .iaddr 3 (.t 15) (.t 17), none, []⟩, ⟨(some 21), 23, .load true 3 (.t 20), none, []⟩, ⟨(some 8), 10, .box 3 (.c (.ag [(.sl true 1 []), (.sl true 2 []), (.sl true 1 [])])), none, []⟩, ⟨(some 7), 9, .mv (.t 19), none, []⟩, ⟨none, 1005005, .store 3 (.t 8) (.t 21), none, []⟩])
  (.seq (.ops [⟨(some 22), 24, .mv (.t 1), none, []⟩, ⟨(some 23), 25, .mv (.t 7), none, []⟩, ⟨(some 24), 26, .iaddr 3 (.t 22) (.t 23), none, []⟩, ⟨(some 25), 27, .load true 3 (.t 24), none, []⟩, ⟨(some 9), 11, .box 3 (.c (.ag [(.sl true 1 []), (.sl true 2 []), (.sl true 1 [])])), none, []⟩, ⟨none, 1006005, .store 3 (.t 9) (.t 25), none, []⟩])
  (.seq (.ops [⟨(some 26), 28, .mv (.t 2), none, []⟩, ⟨(some 27), 29, .load true 3 (.t 8), none, []⟩, ⟨(some 28), 30, .load true 3 (.t 9), none, []⟩, ⟨(some 29), 31, .callv (.t 26) [((.t 27), 0), ((.t 28), 0)], none, []⟩, ⟨(some 30), 32, .un .not (.t 29), none, []⟩])
  (.cond (.t 30)
  (.seq (.ops [⟨(some 6), 8, .mv (.c (.b false)), none, []⟩])
  .ret)
  .skip)))))
  (.ops [⟨(some 31), 33, .bin .add (.t 17) (.c (.i .i64 1)), none, []⟩, ⟨(some 17), 19, .mv (.t 31), none, []⟩])))))))
  (.seq (.ops [⟨(some 6), 8, .mv (.c (.b true)), none, []⟩])
  .ret))))
theorem k120 : compCode Try.prog Try.f120.ntmps Try.f120.body.get! = some c120 := by kernel_rfl
theorem r120 : resTmps Try.prog Try.f120.results.toList = some [.tmp 6] := by kernel_rfl
/- spec.WorldSame -/
def c62 : TCode := (.seq (.ops [⟨(some 2), 4, .box 4 (.t 0), none, []⟩, ⟨(some 3), 5, .box 4 (.t 1), none, []⟩, ⟨(some 4), 6, .mv (.c (.b false)), none, []⟩])
  (.seq (.seq (.ops [⟨(some 9), 11, .faddr 0 2 (.t 2), none, []⟩, ⟨(some 10), 12, .faddr 0 1 (.t 9), none, []⟩, ⟨(some 11), 13, .load false 1 (.t 10), none, []⟩, ⟨(some 12), 14, .faddr 0 2 (.t 3), none, []⟩, ⟨(some 13), 15, .faddr 0 1 (.t 12), none, []⟩, ⟨(some 14), 16, .load false 1 (.t 13), none, []⟩, ⟨(some 15), 17, .call 115 [((.t 11), 0), ((.t 14), 0)], none, []⟩, ⟨(some 16), 18, .un .not (.t 15), none, []⟩, ⟨(some 17), 19, .mv (.t 16), none, []⟩, ⟨(some 18), 20, .faddr 0 2 (.t 2), (some (17, false)), []⟩, ⟨(some 19), 21, .faddr 1 1 (.t 18), (some (17, false)), []⟩, ⟨(some 20), 22, .load false 1 (.t 19), (some (17, false)), []⟩, ⟨(some 21), 23, .faddr 0 2 (.t 3), (some (17, false)), []⟩, ⟨(some 22), 24, .faddr 1 1 (.t 21), (some (17, false)), []⟩, ⟨(some 23), 25, .load false 1 (.t 22), (some (17, false)), []⟩, ⟨(some 24), 26, .call 115 [((.t 20), 0), ((.t 23), 0)], (some (17, false)), []⟩, ⟨(some 25), 27, .un .not (.t 24), (some (17, false)), []⟩, ⟨(some 26), 28, .pick (.t 17) (.c (.b true)) (.t 25), none, []⟩, ⟨(some 27), 29, .mv (.t 26), none, []⟩, ⟨(some 28), 30, .faddr 3 1 (.t 2), (some (27, false)), []⟩, ⟨(some 29), 31, .load false 1 (.t 28), (some (27, false)), []⟩, ⟨(some 30), 32, .faddr 3 1 (.t 3), (some (27, false)), []⟩, ⟨(some 31), 33, .load false 1 (.t 30), (some (27, false)), []⟩, ⟨(some 32), 34, .call 116 [((.t 29), 0), ((.t 31), 0)], (some (27, false)), []⟩, ⟨(some 33), 35, .un .not (.t 32), (some (27, false)), []⟩, ⟨(some 34), 36, .pick (.t 27) (.c (.b true)) (.t 33), none, []⟩, ⟨(some 35), 37, .mv (.t 34), none, []⟩, ⟨(some 36), 38, .faddr 2 1 (.t 2), (some (35, false)), []⟩, ⟨(some 37), 39, .load false 1 (.t 36), (some (35, false)), []⟩, ⟨(some 38), 40, .len false (.t 37), (some (35, false)), []⟩, ⟨(some 39), 41, .faddr 2 1 (.t 3), (some (35, false)), []⟩, ⟨(some 40), 42, .load false 1 (.t 39), (some (35, false)), []⟩, ⟨(some 41), 43, .len false (.t 40), (some (35, false)), []⟩, ⟨(some 42), 44, .bin .neq (.t 38) (.t 41), (some (35, false)), []⟩, ⟨(some 43), 45, .pick (.t 35) (.c (.b true)) (.t 42), none, []⟩])
  (.cond (.t 43)
  (.seq (.ops [⟨(some 4), 6, .mv (.c (.b false)), none, []⟩])
  .ret)
  .skip))
  (.seq (.seq (.ops [⟨(some 5), 7, .mv (.c (.i .i64 0)), none, []⟩])
  (.block 0 (.loop (.seq (.seq (.ops [⟨(some 44), 46, .mv (.t 5), none, []⟩, ⟨(some 45), 47, .faddr 2 1 (.t 2), none, []⟩, ⟨(some 46), 48, .load false 1 (.t 45), none, []⟩, ⟨(some 47), 49, .len false (.t 46), none, []⟩, ⟨(some 48), 50, .bin .lss (.t 44) (.t 47), none, []⟩])
  (.cond (.t 48)
  .skip
  (.exit 0)))
  (.seq (.block 1 (.seq (.draw [⟨(some 51), 53, .faddr 2 1 (.t 2), none, []⟩, ⟨(some 52), 54, .load false 1 (.t 51), none, []⟩, ⟨(some 53), 55, .mv (.t 5), none, []⟩, ⟨(some 54), 56, .iaddr 3 (.t 52) (.t 53), none, []⟩, ⟨(some 55), 57, .load true 3 (.t 54), none, []⟩, ⟨(some 56), 58, .faddr 2 1 (.t 3), none, []⟩, ⟨(some 57), 59, .load false 1 (.t 56), none, []⟩, ⟨(some 58), 60, .mv (.t 5), none, []⟩, ⟨(some 59), 61, .iaddr 3 (.t 57) (.t 58), none, []⟩, ⟨(some 60), 62, .load true 3 (.t 59), none, []⟩, ⟨(some 6), 8, .box 3 (.c (.ag [(.sl true 1 []), (.sl true 2 []), (.sl true 1 [])])), none, [0, 1, 2, 3, 4, 5, 6, 7, 8, 9]⟩, ⟨(some 7), 9, .box 3 (.c (.ag [(.sl true 1 []), (.sl true 2 []), (.sl true 1 [])])), none, [0, 1, 2, 3, 4, 5, 6, 7, 8, 9, 10]⟩, ⟨none, 1006012, .store 3 (.t 6) (.t 55), none, [1000000, 5, 6, 7, 8, 9]⟩, ⟨none, 1006013, .store 3 (.t 7) (.t 60), none, []⟩])
  (.seq (.seq (.ops [⟨(some 61), 63, .faddr 0 1 (.t 6), none, []⟩, ⟨(some 62), 64, .load false 1 (.t 61), none, []⟩, ⟨(some 63), 65, .faddr 0 1 (.t 7), none, []⟩, ⟨(some 64), 66, .load false 1 (.t 63), none, []⟩, ⟨(some 65), 67, .call 115 [((.t 62), 0), ((.t 64), 0)], none, []⟩, ⟨(some 66), 68, .un .not (.t 65), none, []⟩, ⟨(some 67), 69, .mv (.t 66), none, []⟩, ⟨(some 68), 70, .faddr 1 1 (.t 6), (some (67, false)), []⟩, ⟨(some 69), 71, .load false 1 (.t 68), (some (67, false)), []⟩, ⟨(some 70), 72, .faddr 1 1 (.t 7), (some (67, false)), []⟩, ⟨(some 71), 73, .load false 1 (.t 70), (some (67, false)), []⟩, ⟨(some 72), 74, .call 117 [((.t 69), 0), ((.t 71), 0)], (some (67, false)), []⟩, ⟨(some 73), 75, .un .not (.t 72), (some (67, false)), []⟩, ⟨(some 74), 76, .pick (.t 67) (.c (.b true)) (.t 73), none, []⟩, ⟨(some 75), 77, .mv (.t 74), none, []⟩, ⟨(some 76), 78, .faddr 2 1 (.t 6), (some (75, false)), []⟩, ⟨(some 77), 79, .load false 1 (.t 76), (some (75, false)), []⟩, ⟨(some 78), 80, .len false (.t 77), (some (75, false)), []⟩, ⟨(some 79), 81, .faddr 2 1 (.t 7), (some (75, false)), []⟩, ⟨(some 80), 82, .load false 1 (.t 79), (some (75, false)), []⟩, ⟨(some 81), 83, .len false (.t 80), (some (75, false)), []⟩, ⟨(some 82), 84, .bin .neq (.t 78) (.t 81), (some (75, false)), []⟩, ⟨(some 83), 85, .pick (.t 75) (.c (.b true)) (.t 82), none, []⟩])
  (.cond (.t 83)
  (.seq (.ops [⟨(some 4), 6, .mv (.c (.b false)), none, []⟩])
  .ret)
  .skip))
  (.seq (.ops [⟨(some 8), 10, .mv (.c (.i .i64 0)), none, []⟩])
  (.block 2 (.loop (.seq (.seq (.ops [⟨(some 84), 86, .mv (.t 8), none, []⟩, ⟨(some 85), 87, .faddr 2 1 (.t 6), none, []⟩, ⟨(some 86), 88, .load false 1 (.t 85), none, []⟩, ⟨(some 87), 89, .len false (.t 86), none, []⟩, ⟨(some 88), 90, .bin .lss (.t 84) (.t 87), none, []⟩])
  (.cond (.t 88)
  .skip
  (.exit 2)))
  (.seq (.block 3 (.seq (.draw [⟨(some 91), 93, .faddr 2 1 (.t 6), none, []⟩, ⟨(some 92), 94, .load false 1 (.t 91), none, []⟩, ⟨(some 93), 95, .mv (.t 8), none, []⟩, ⟨(some 94), 96, .iaddr 1 (.t 92) (.t 93), none, []⟩, ⟨(some 95), 97, .load false 1 (.t 94), none, []⟩, ⟨(some 96), 98, .faddr 2 1 (.t 7), none, []⟩, ⟨(some 97), 99, .load false 1 (.t 96), none, []⟩, ⟨(some 98), 100, .mv (.t 8), none, []⟩, ⟨(some 99), 101, .iaddr 1 (.t 97) (.t 98), none, []⟩, ⟨(some 100), 102, .load false 1 (.t 99), none, []⟩, ⟨(some 101), 103, .call 116 [((.t 95), 0), ((.t 100), 0)], none, []⟩, ⟨(some 102), 104, .un .not (.t 101), none, []⟩])
  (.cond (.t 102)
  (.seq (.ops [⟨(some 4), 6, .mv (.c (.b false)), none, []⟩])
  .ret)
  .skip)))
  (.ops [⟨(some 89), 91, .mv (.t 8), none, []⟩, ⟨(some 90), 92, .bin .add (.t 89) (.c (.i .i64 1)), none, []⟩, ⟨(some 8), 10, .mv (.t 90), none, []⟩])))))))))
  (.ops [⟨(some 49), 51, .mv (.t 5), none, []⟩, ⟨(some 50), 52, .bin .add (.t 49) (.c (.i .i64 1)), none, []⟩, ⟨(some 5), 7, .mv (.t 50), none, []⟩]))))))
  (.seq (.ops [⟨(some 4), 6, .mv (.c (.b true)), none, []⟩])
  .ret))))
theorem k62 : compCode Try.prog Try.f62.ntmps Try.f62.body.get! = some c62 := by kernel_rfl
theorem r62 : resTmps Try.prog Try.f62.results.toList = some [.tmp 4] := by kernel_rfl
/- impl.WorldSame -/
def c63 : TCode := (.seq (.ops [⟨(some 2), 4, .box 4 (.t 0), none, []⟩, ⟨(some 3), 5, .box 4 (.t 1), none, []⟩, ⟨(some 4), 6, .mv (.c (.b false)), none, []⟩])
  (.seq (.seq (.ops [⟨(some 5), 7, .faddr 0 2 (.t 2), none, []⟩, ⟨(some 6), 8, .faddr 0 1 (.t 5), none, []⟩, ⟨(some 7), 9, .load false 1 (.t 6), none, []⟩, ⟨(some 8), 10, .faddr 0 2 (.t 3), none, []⟩, ⟨(some 9), 11, .faddr 0 1 (.t 8), none, []⟩, ⟨(some 10), 12, .load false 1 (.t 9), none, []⟩, ⟨(some 11), 13, .call 118 [((.t 7), 0), ((.t 10), 0)], none, []⟩, ⟨(some 12), 14, .un .not (.t 11), none, []⟩, ⟨(some 13), 15, .mv (.t 12), none, []⟩, ⟨(some 14), 16, .faddr 0 2 (.t 2), (some (13, false)), []⟩, ⟨(some 15), 17, .faddr 1 1 (.t 14), (some (13, false)), []⟩, ⟨(some 16), 18, .load false 1 (.t 15), (some (13, false)), []⟩, ⟨(some 17), 19, .faddr 0 2 (.t 3), (some (13, false)), []⟩, ⟨(some 18), 20, .faddr 1 1 (.t 17), (some (13, false)), []⟩, ⟨(some 19), 21, .load false 1 (.t 18), (some (13, false)), []⟩, ⟨(some 20), 22, .call 118 [((.t 16), 0), ((.t 19), 0)], (some (13, false)), []⟩, ⟨(some 21), 23, .un .not (.t 20), (some (13, false)), []⟩, ⟨(some 22), 24, .pick (.t 13) (.c (.b true)) (.t 21), none, []⟩, ⟨(some 23), 25, .mv (.t 22), none, []⟩, ⟨(some 24), 26, .faddr 3 1 (.t 2), (some (23, false)), []⟩, ⟨(some 25), 27, .load false 1 (.t 24), (some (23, false)), []⟩, ⟨(some 26), 28, .faddr 3 1 (.t 3), (some (23, false)), []⟩, ⟨(some 27), 29, .load false 1 (.t 26), (some (23, false)), []⟩, ⟨(some 28), 30, .call 119 [((.t 25), 0), ((.t 27), 0)], (some (23, false)), []⟩, ⟨(some 29), 31, .un .not (.t 28), (some (23, false)), []⟩, ⟨(some 30), 32, .pick (.t 23) (.c (.b true)) (.t 29), none, []⟩])
  (.cond (.t 30)
  (.seq (.ops [⟨(some 4), 6, .mv (.c (.b false)), none, []⟩])
  .ret)
  .skip))
  (.seq (.ops [⟨(some 31), 33, .faddr 2 1 (.t 2), none, []⟩, ⟨(some 32), 34, .load false 1 (.t 31), none, []⟩, ⟨(some 33), 35, .faddr 2 1 (.t 3), none, []⟩, ⟨(some 34), 36, .load false 1 (.t 33), none, []⟩, ⟨(some 35), 37, .call 120 [((.t 32), 0), ((.t 34), 0), ((.c (.fn 121 [])), 0)], none, []⟩, ⟨(some 4), 6, .mv (.t 35), none, []⟩])
  .ret)))
theorem k63 : compCode Try.prog Try.f63.ntmps Try.f63.body.get! = some c63 := by kernel_rfl
theorem r63 : resTmps Try.prog Try.f63.results.toList = some [.tmp 4] := by kernel_rfl
/- laws.FnExactWorldSame -/
def c11 : TCode := (.seq (.ops [⟨(some 2), 4, .box 4 (.t 0), none, []⟩, ⟨(some 3), 5, .box 4 (.t 1), none, []⟩, ⟨(some 4), 6, .mv (.c (.b false)), none, []⟩])
  (.seq (.ops [⟨(some 5), 7, .mv (.c (.i .i64 1048576)), none, []⟩])
  (.seq (.ops [⟨(some 10), 12, .load true 4 (.t 2), none, []⟩, ⟨(some 11), 13, .mv (.t 5), none, []⟩, ⟨(some 12), 14, .call 49 [((.t 10), 0), ((.t 11), 0)], none, []⟩, ⟨(some 5), 7, .mv (.t 12), none, []⟩])
  (.seq (.seq (.ops [⟨(some 13), 15, .mv (.t 5), none, []⟩, ⟨(some 14), 16, .bin .lss (.t 13) (.c (.i .i64 0)), none, []⟩])
  (.cond (.t 14)
  (.seq (.ops [⟨(some 4), 6, .mv (.c (.b true)), none, []⟩])
  .ret)
  .skip))
  (.seq (.ops [⟨(some 15), 17, .load true 4 (.t 3), none, []⟩, ⟨(some 16), 18, .mv (.t 5), none, []⟩, ⟨(some 17), 19, .call 49 [((.t 15), 0), ((.t 16), 0)], none, []⟩, ⟨(some 5), 7, .mv (.t 17), none, []⟩])
  (.seq (.seq (.ops [⟨(some 18), 20, .mv (.t 5), none, []⟩, ⟨(some 19), 21, .bin .lss (.t 18) (.c (.i .i64 0)), none, []⟩])
  (.cond (.t 19)
  (.seq (.ops [⟨(some 4), 6, .mv (.c (.b true)), none, []⟩])
  .ret)
  .skip))
  (.seq (.draw [⟨(some 20), 22, .load true 4 (.t 2), none, []⟩, ⟨(some 21), 23, .call 51 [((.t 20), 0)], none, []⟩, ⟨(some 22), 24, .load true 4 (.t 3), none, [1]⟩, ⟨(some 23), 25, .call 51 [((.t 22), 0)], none, []⟩, ⟨(some 24), 26, .call 62 [((.t 21), 0), ((.t 23), 0)], none, []⟩, ⟨(some 6), 8, .mv (.t 24), none, []⟩])
  (.seq (.ops [⟨(some 25), 27, .load true 4 (.t 2), none, []⟩, ⟨(some 26), 28, .call 51 [((.t 25), 0)], none, []⟩, ⟨(some 7), 9, .box 4 (.c (.ag [(.sl true 1 []), (.sl true 1 []), (.sl true 3 []), (.sl true 4 [])])), none, []⟩, ⟨none, 1009003, .store 4 (.t 7) (.t 26), none, []⟩])
  (.seq (.ops [⟨(some 27), 29, .load true 4 (.t 3), none, []⟩, ⟨(some 28), 30, .call 51 [((.t 27), 0)], none, []⟩, ⟨(some 8), 10, .box 4 (.c (.ag [(.sl true 1 []), (.sl true 1 []), (.sl true 3 []), (.sl true 4 [])])), none, []⟩, ⟨none, 1010003, .store 4 (.t 8) (.t 28), none, []⟩])
  (.seq (.ops [⟨(some 29), 31, .load true 4 (.t 7), none, []⟩, ⟨(some 30), 32, .load true 4 (.t 8), none, []⟩, ⟨(some 31), 33, .call 63 [((.t 29), 0), ((.t 30), 0)], none, []⟩, ⟨(some 9), 11, .mv (.t 31), none, []⟩])
  (.seq (.seq (.ops [⟨(some 32), 34, .mv (.t 9), none, []⟩, ⟨(some 33), 35, .mv (.t 6), none, []⟩, ⟨(some 34), 36, .eqs true false [.b] (.t 32) (.t 33), none, []⟩])
  (.cond (.t 34)
  (.seq (.ops [⟨(some 4), 6, .mv (.c (.b false)), none, []⟩])
  .ret)
  .skip))
  (.seq (.seq (.draw [⟨(some 35), 37, .load true 4 (.t 7), none, []⟩, ⟨(some 36), 38, .load true 4 (.t 2), none, []⟩, ⟨(some 37), 39, .call 51 [((.t 36), 0)], none, [0]⟩, ⟨(some 38), 40, .call 55 [((.t 35), 0), ((.t 37), 0)], none, []⟩, ⟨(some 39), 41, .un .not (.t 38), none, []⟩])
  (.cond (.t 39)
  (.seq (.ops [⟨(some 4), 6, .mv (.c (.b false)), none, []⟩])
  .ret)
  .skip))
  (.seq (.seq (.draw [⟨(some 40), 42, .load true 4 (.t 8), none, []⟩, ⟨(some 41), 43, .load true 4 (.t 3), none, []⟩, ⟨(some 42), 44, .call 51 [((.t 41), 0)], none, [0]⟩, ⟨(some 43), 45, .call 55 [((.t 40), 0), ((.t 42), 0)], none, []⟩, ⟨(some 44), 46, .un .not (.t 43), none, []⟩])
  (.cond (.t 44)
  (.seq (.ops [⟨(some 4), 6, .mv (.c (.b false)), none, []⟩])
  .ret)
  .skip))
  (.seq (.ops [⟨(some 4), 6, .mv (.c (.b true)), none, []⟩])
  .ret))))))))))))))
theorem k11 : compCode Try.prog Try.f11.ntmps Try.f11.body.get! = some c11 := by kernel_rfl
theorem r11 : resTmps Try.prog Try.f11.results.toList = some [.tmp 4] := by kernel_rfl

theorem w116 (a b : List (ValP)) (ha : a.length ≤ 2^40) (hb : b.length ≤ 2^40) (fa : valsF a) (fb : valsF b) : Contract Try.prog false 116 [.ro, .ro] [.sl false 4 (a.map vT), .sl false 4 (b.map vT)] [.b (decide (a = b))] [] := by
  refine mk_contract [] Try.func116 (c := Try.f116.body.get!) (by kernel_rfl) k116 r116 (of_decide_eq_true rfl) fun _ => ?_
  unfold c116; simp
  refine ⟨fun h => ?_, fun h => ?_⟩
  · refine twp_for a.length (fun j s => s.t 0 = .sl false 4 (a.map vT) ∧ s.t 1 = .sl false 4 (b.map vT) ∧ s.t 5 = .i .i64 j ∧ a.take j = b.take j ∧ s.H = lk [(1, [])]) [] (by simp) ?_ ?_
    · simp
    · rintro j s hj ⟨q0, q1, q5, hab, qH⟩
      rw [nf_of qH]
      simp [q0, q1, q5]
      refine ⟨fun hlt => ?_, fun hge => ?_⟩
      · have hw : IntKind.i64.wrap (j + 1) = j + 1 := wrap_id (by omega) (by omega)
        obtain ⟨x, hx⟩ := get_some hlt
        obtain ⟨y, hy⟩ := get_some (l := b) (j := j) (by omega)
        simp [hx, hy, hw, q0, q1, q5]
        by_cases hxy : x = y
        · refine callW_ms [.ro, .ro] ?_
          simp [valV]
          refine callX_of ((w164 x y (fa x (List.mem_of_getElem? hx)) (fb y (List.mem_of_getElem? hy))).t hxy) (by simp) ?_
          simp [hw, q0, q1, q5]
          exact ⟨hlt, by rw [take_snoc hx, take_snoc hy, hab, hxy]⟩
        · refine callW_ms [.ro, .ro] ?_
          simp [valV]
          refine callX_of ((w164 x y (fa x (List.mem_of_getElem? hx)) (fb y (List.mem_of_getElem? hy))).f hxy) (by simp) ?_
          simp [hw, q0, q1, q5]
          intro hab2; subst hab2; rw [hx] at hy; cases hy; exact absurd rfl hxy
      · obtain rfl : j = a.length := by omega
        rw [List.take_of_length_le (Nat.le_refl _), List.take_of_length_le (by omega)] at hab
        exact hab
  · rintro rfl; exact h rfl
theorem w117 (a b : List (Int × Int)) (ha : a.length ≤ 2^40) (hb : b.length ≤ 2^40) : Contract Try.prog false 117 [.ro, .ro] [.sl false 2 (a.map eT), .sl false 2 (b.map eT)] [.b (decide (a = b))] [] := by
  refine mk_contract [] Try.func117 (c := Try.f117.body.get!) (by kernel_rfl) k117 r117 (of_decide_eq_true rfl) fun _ => ?_
  unfold c117; simp
  refine ⟨fun h => ?_, fun h => ?_⟩
  · refine twp_for a.length (fun j s => s.t 0 = .sl false 2 (a.map eT) ∧ s.t 1 = .sl false 2 (b.map eT) ∧ s.t 5 = .i .i64 j ∧ a.take j = b.take j ∧ s.H = lk [(1, [])]) [] (by simp) ?_ ?_
    · simp
    · rintro j s hj ⟨q0, q1, q5, hab, qH⟩
      rw [nf_of qH]
      simp [q0, q1, q5]
      refine ⟨fun hlt => ?_, fun hge => ?_⟩
      · have hw : IntKind.i64.wrap (j + 1) = j + 1 := wrap_id (by omega) (by omega)
        obtain ⟨x, hx⟩ := get_some hlt
        obtain ⟨y, hy⟩ := get_some (l := b) (j := j) (by omega)
        simp [hx, hy, hw, q0, q1, q5]
        by_cases hxy : x = y
        · subst hxy
          simp [hw, q0, q1, q5]
          exact ⟨hlt, by rw [take_snoc hx, take_snoc hy, hab]⟩
        · have hne : (!decide (x.1 = y.1) || !decide (x.2 = y.2)) = true := by
            cases h1 : decide (x.1 = y.1) <;> cases h2 : decide (x.2 = y.2) <;> simp_all
            exact hxy (Prod.ext h1 h2)
          simp [hne, hw, q0, q1, q5]
          intro hab2; subst hab2; rw [hx] at hy; cases hy; exact absurd rfl hxy
      · obtain rfl : j = a.length := by omega
        rw [List.take_of_length_le (Nat.le_refl _), List.take_of_length_le (by omega)] at hab
        exact hab
  · rintro rfl; exact h rfl
theorem w122 (a b : List (Int × Int)) (ha : a.length ≤ 2^40) (hb : b.length ≤ 2^40) : Contract Try.prog false 122 [.ro, .ro] [.sl false 2 (a.map eT), .sl false 2 (b.map eT)] [.b (decide (a = b))] [] := by
  refine mk_contract [] Try.func122 (c := Try.f122.body.get!) (by kernel_rfl) k122 r122 (of_decide_eq_true rfl) fun _ => ?_
  unfold c122; simp
  refine ⟨fun h => ?_, fun h => ?_⟩
  · refine twp_for a.length (fun j s => s.t 0 = .sl false 2 (a.map eT) ∧ s.t 1 = .sl false 2 (b.map eT) ∧ s.t 12 = .i .i64 a.length ∧ s.t 13 = .i .i64 j ∧ a.take j = b.take j ∧ s.H = lk [(1, [])]) [] (by simp) ?_ ?_
    · simp
    · rintro j s hj ⟨q0, q1, q12, q13, hab, qH⟩
      rw [nf_of qH]
      simp [q0, q1, q12, q13]
      refine ⟨fun hlt => ?_, fun hge => ?_⟩
      · have hw : IntKind.i64.wrap (j + 1) = j + 1 := wrap_id (by omega) (by omega)
        obtain ⟨x, hx⟩ := get_some hlt
        obtain ⟨y, hy⟩ := get_some (l := b) (j := j) (by omega)
        simp [hx, hy, hw, q0, q1, q12, q13]
        by_cases hxy : x = y
        · subst hxy
          simp [hw, q0, q1, q12, q13]
          exact ⟨hlt, by rw [take_snoc hx, take_snoc hy, hab]⟩
        · have hne : (!decide (x.1 = y.1) || !decide (x.2 = y.2)) = true := by
            cases h1 : decide (x.1 = y.1) <;> cases h2 : decide (x.2 = y.2) <;> simp_all
            exact hxy (Prod.ext h1 h2)
          simp [hne, hw, q0, q1, q12, q13]
          intro hab2; subst hab2; rw [hx] at hy; cases hy; exact absurd rfl hxy
      · obtain rfl : j = a.length := by omega
        rw [List.take_of_length_le (Nat.le_refl _), List.take_of_length_le (by omega)] at hab
        exact hab
  · rintro rfl; exact h rfl
theorem w165 (a b : List (ValP)) (ha : a.length ≤ 2^40) (hb : b.length ≤ 2^40) : Contract Try.prog false 165 [.ro, .ro, .ro] [.sl false 4 (a.map vT), .sl false 4 (b.map vT), .fn 166 []] [.b (decide (a = b))] [] := by
  refine mk_contract [] Try.func165 (c := Try.f165.body.get!) (by kernel_rfl) k165 r165 (of_decide_eq_true rfl) fun _ => ?_
  unfold c165; simp
  refine ⟨fun h => ?_, fun h => ?_⟩
  · refine twp_for a.length (fun j s => s.t 0 = .sl false 4 (a.map vT) ∧ s.t 1 = .sl false 4 (b.map vT) ∧ s.t 2 = .fn 166 [] ∧ s.t 15 = .sl false 4 (a.map vT) ∧ s.t 16 = .i .i64 a.length ∧ s.t 17 = .i .i64 j ∧ a.take j = b.take j ∧ s.H = lk [(1, [])]) [10, 11] (by simp) ?_ ?_
    · simp
    · rintro j s hj ⟨q0, q1, q2, q15, q16, q17, hab, qH⟩
      rw [nf_of qH]
      simp [q0, q1, q2, q15, q16, q17]
      refine ⟨fun hlt => ?_, fun hge => ?_⟩
      · have hw : IntKind.i64.wrap (j + 1) = j + 1 := wrap_id (by omega) (by omega)
        obtain ⟨x, hx⟩ := get_some hlt
        obtain ⟨y, hy⟩ := get_some (l := b) (j := j) (by omega)
        simp [hx, hy, hw, q0, q1, q2, q15, q16, q17]
        refine ⟨by kernel_rfl, ?_⟩
        by_cases hxy : x = y
        · refine callW_ms [.ro, .ro] ?_
          simp [valV]
          refine callX_of ((w166 x y).t hxy) (by simp) ?_
          simp [hw, q0, q1, q2, q15, q16, q17]
          exact ⟨hlt, by rw [take_snoc hx, take_snoc hy, hab, hxy]⟩
        · refine callW_ms [.ro, .ro] ?_
          simp [valV]
          refine callX_of ((w166 x y).f hxy) (by simp) ?_
          simp [hw, q0, q1, q2, q15, q16, q17]
          intro hab2; subst hab2; rw [hx] at hy; cases hy; exact absurd rfl hxy
      · obtain rfl : j = a.length := by omega
        rw [List.take_of_length_le (Nat.le_refl _), List.take_of_length_le (by omega)] at hab
        exact hab
  · rintro rfl; exact h rfl
theorem w119 (a b : List ValP) (ha : a.length ≤ 2^40) (hb : b.length ≤ 2^40) : Contract Try.prog false 119 [.ro, .ro] [.sl false 4 (a.map vT), .sl false 4 (b.map vT)] [.b (decide (a = b))] [] := by
  refine mk_contract [] Try.func119 (c := Try.f119.body.get!) (by kernel_rfl) k119 r119 (of_decide_eq_true rfl) fun _ => ?_
  unfold c119; simp
  refine callW_ms [.ro, .ro, .ro] ?_
  simp
  refine callX_of (w165 a b ha hb) (by simp) ?_
  simp
theorem w123 (a b : List (List ValP)) (ha : a.length ≤ 2^40) (hb : b.length ≤ 2^40) (h1 : ∀ v ∈ a, v.length ≤ 2^40) (h2 : ∀ v ∈ b, v.length ≤ 2^40) : Contract Try.prog false 123 [.ro, .ro, .ro] [.sl false 1 (a.map cvT), .sl false 1 (b.map cvT), .fn 119 []] [.b (decide (a = b))] [] := by
  refine mk_contract [] Try.func123 (c := Try.f123.body.get!) (by kernel_rfl) k123 r123 (of_decide_eq_true rfl) fun _ => ?_
  unfold c123; simp
  refine ⟨fun h => ?_, fun h => ?_⟩
  · refine twp_for a.length (fun j s => s.t 0 = .sl false 1 (a.map cvT) ∧ s.t 1 = .sl false 1 (b.map cvT) ∧ s.t 2 = .fn 119 [] ∧ s.t 15 = .sl false 1 (a.map cvT) ∧ s.t 16 = .i .i64 a.length ∧ s.t 17 = .i .i64 j ∧ a.take j = b.take j ∧ s.H = lk [(1, [])]) [] (by simp) ?_ ?_
    · simp
    · rintro j s hj ⟨q0, q1, q2, q15, q16, q17, hab, qH⟩
      rw [nf_of qH]
      simp [q0, q1, q2, q15, q16, q17]
      refine ⟨fun hlt => ?_, fun hge => ?_⟩
      · have hw : IntKind.i64.wrap (j + 1) = j + 1 := wrap_id (by omega) (by omega)
        obtain ⟨x, hx⟩ := get_some hlt
        obtain ⟨y, hy⟩ := get_some (l := b) (j := j) (by omega)
        simp [hx, hy, hw, q0, q1, q2, q15, q16, q17]
        refine ⟨by kernel_rfl, ?_⟩
        by_cases hxy : x = y
        · refine callW_ms [.ro, .ro] ?_
          simp
          refine callX_of ((w119 x y (h1 x (List.mem_of_getElem? hx)) (h2 y (List.mem_of_getElem? hy))).t hxy) (by simp) ?_
          simp [hw, q0, q1, q2, q15, q16, q17]
          exact ⟨hlt, by rw [take_snoc hx, take_snoc hy, hab, hxy]⟩
        · refine callW_ms [.ro, .ro] ?_
          simp
          refine callX_of ((w119 x y (h1 x (List.mem_of_getElem? hx)) (h2 y (List.mem_of_getElem? hy))).f hxy) (by simp) ?_
          simp [hw, q0, q1, q2, q15, q16, q17]
          intro hab2; subst hab2; rw [hx] at hy; cases hy; exact absurd rfl hxy
      · obtain rfl : j = a.length := by omega
        rw [List.take_of_length_le (Nat.le_refl _), List.take_of_length_le (by omega)] at hab
        exact hab
  · rintro rfl; exact h rfl
noncomputable instance : DecidableEq TableP := fun _ _ => Classical.propDecidable _
theorem table_ext {x y : TableP} : x = y ↔ x.1 = y.1 ∧ x.2.1 = y.2.1 ∧ x.2.2 = y.2.2 := by
  obtain ⟨a, b, c⟩ := x; obtain ⟨a', b', c'⟩ := y; simp
theorem w121 (x y : TableP) (hx : okT x) (hy : okT y) : Contract Try.prog false 121 [.ro, .ro] [tableR x, tableR y] [.b (decide (x = y))] [] := by
  refine mk_contract [] Try.func121 (c := Try.f121.body.get!) (by kernel_rfl) k121 r121 (of_decide_eq_true rfl) fun _ => ?_
  have hxy := @table_ext x y
  obtain ⟨a1, a2, a3, a4⟩ := hx
  obtain ⟨b1, b2, b3, b4⟩ := hy
  unfold c121; simp
  by_cases h1 : x.1 = y.1
  · refine callW_ms [.ro, .ro] ?_
    simp
    refine callX_of ((w118 x.1 y.1 (by omega) (by omega)).t h1) (by simp) ?_
    simp
    by_cases h2 : x.2.1 = y.2.1
    · refine callW_ms [.ro, .ro] ?_
      simp
      refine callX_of ((w122 x.2.1 y.2.1 (by omega) (by omega)).t h2) (by simp) ?_
      simp
      refine callW_ms [.ro, .ro, .ro] ?_
      simp
      refine callX_of (w123 x.2.2 y.2.2 (by omega) (by omega) (fun v hv => by have := a4 v hv; omega) (fun v hv => by have := b4 v hv; omega)) (by simp) ?_
      simp
      simp [hxy, h1, h2]
    · refine callW_ms [.ro, .ro] ?_
      simp
      refine callX_of ((w122 x.2.1 y.2.1 (by omega) (by omega)).f h2) (by simp) ?_
      simp
      simp [hxy, h2]
  · refine callW_ms [.ro, .ro] ?_
    simp
    refine callX_of ((w118 x.1 y.1 (by omega) (by omega)).f h1) (by simp) ?_
    simp
    simp [hxy, h1]
theorem w120 (a b : List (TableP)) (ha : a.length ≤ 2^40) (hb : b.length ≤ 2^40) (h1 : ∀ t ∈ a, okT t) (h2 : ∀ t ∈ b, okT t) : Contract Try.prog false 120 [.ro, .ro, .ro] [.sl false 3 (a.map tbT), .sl false 3 (b.map tbT), .fn 121 []] [.b (decide (a = b))] [] := by
  refine mk_contract [] Try.func120 (c := Try.f120.body.get!) (by kernel_rfl) k120 r120 (of_decide_eq_true rfl) fun _ => ?_
  unfold c120; simp
  refine ⟨fun h => ?_, fun h => ?_⟩
  · refine twp_for a.length (fun j s => s.t 0 = .sl false 3 (a.map tbT) ∧ s.t 1 = .sl false 3 (b.map tbT) ∧ s.t 2 = .fn 121 [] ∧ s.t 15 = .sl false 3 (a.map tbT) ∧ s.t 16 = .i .i64 a.length ∧ s.t 17 = .i .i64 j ∧ a.take j = b.take j ∧ s.H = lk [(1, [])]) [10, 11] (by simp) ?_ ?_
    · simp
    · rintro j s hj ⟨q0, q1, q2, q15, q16, q17, hab, qH⟩
      rw [nf_of qH]
      simp [q0, q1, q2, q15, q16, q17]
      refine ⟨fun hlt => ?_, fun hge => ?_⟩
      · have hw : IntKind.i64.wrap (j + 1) = j + 1 := wrap_id (by omega) (by omega)
        obtain ⟨x, hx⟩ := get_some hlt
        obtain ⟨y, hy⟩ := get_some (l := b) (j := j) (by omega)
        simp [hx, hy, hw, q0, q1, q2, q15, q16, q17]
        refine ⟨by kernel_rfl, ?_⟩
        by_cases hxy : x = y
        · refine callW_ms [.ro, .ro] ?_
          simp
          refine callX_of ((w121 x y (h1 x (List.mem_of_getElem? hx)) (h2 y (List.mem_of_getElem? hy))).t hxy) (by simp) ?_
          simp [hw, q0, q1, q2, q15, q16, q17]
          exact ⟨hlt, by rw [take_snoc hx, take_snoc hy, hab, hxy]⟩
        · refine callW_ms [.ro, .ro] ?_
          simp
          refine callX_of ((w121 x y (h1 x (List.mem_of_getElem? hx)) (h2 y (List.mem_of_getElem? hy))).f hxy) (by simp) ?_
          simp [hw, q0, q1, q2, q15, q16, q17]
          intro hab2; subst hab2; rw [hx] at hy; cases hy; exact absurd rfl hxy
      · obtain rfl : j = a.length := by omega
        rw [List.take_of_length_le (Nat.le_refl _), List.take_of_length_le (by omega)] at hab
        exact hab
  · rintro rfl; exact h rfl
noncomputable instance : DecidableEq WorldP := fun _ _ => Classical.propDecidable _
theorem world_ext {x y : WorldP} : x = y ↔ x.1 = y.1 ∧ x.2.1 = y.2.1 ∧ x.2.2.1 = y.2.2.1 ∧ x.2.2.2 = y.2.2.2 := by
  obtain ⟨a, b, c, d⟩ := x; obtain ⟨a', b', c', d'⟩ := y; simp
theorem w63 (x y : WorldP) (hx : okW x) (hy : okW y) : Contract Try.prog false 63 [.ro, .ro] [worldR x.1 x.2.1 x.2.2.1 x.2.2.2, worldR y.1 y.2.1 y.2.2.1 y.2.2.2] [.b (decide (x = y))] [] := by
  refine mk_contract [] Try.func63 (c := Try.f63.body.get!) (by kernel_rfl) k63 r63 (of_decide_eq_true rfl) fun _ => ?_
  have hxy := @world_ext x y
  obtain ⟨a1, a2, ⟨a3, a4⟩, a5⟩ := hx
  obtain ⟨b1, b2, ⟨b3, b4⟩, b5⟩ := hy
  unfold c63; simp
  by_cases h1 : x.1 = y.1
  · refine callW_ms [.ro, .ro] ?_
    simp
    refine callX_of ((w118 x.1 y.1 (by omega) (by omega)).t h1) (by simp) ?_
    simp
    by_cases h2 : x.2.1 = y.2.1
    · refine callW_ms [.ro, .ro] ?_
      simp
      refine callX_of ((w118 x.2.1 y.2.1 (by omega) (by omega)).t h2) (by simp) ?_
      simp
      by_cases h3 : x.2.2.2 = y.2.2.2
      · refine callW_ms [.ro, .ro] ?_
        simp
        refine callX_of ((w119 x.2.2.2 y.2.2.2 (by omega) (by omega)).t h3) (by simp) ?_
        simp
        refine callW_ms [.ro, .ro, .ro] ?_
        simp
        refine callX_of (w120 x.2.2.1 y.2.2.1 (by omega) (by omega) a4 b4) (by simp) ?_
        simp
        simp [hxy, h1, h2, h3]
      · refine callW_ms [.ro, .ro] ?_
        simp
        refine callX_of ((w119 x.2.2.2 y.2.2.2 (by omega) (by omega)).f h3) (by simp) ?_
        simp
        simp [hxy, h3]
    · refine callW_ms [.ro, .ro] ?_
      simp
      refine callX_of ((w118 x.2.1 y.2.1 (by omega) (by omega)).f h2) (by simp) ?_
      simp
      simp [hxy, h2]
  · refine callW_ms [.ro, .ro] ?_
    simp
    refine callX_of ((w118 x.1 y.1 (by omega) (by omega)).f h1) (by simp) ?_
    simp
    simp [hxy, h1]
def fT (t : TableP) : Prop := ∀ v ∈ t.2.2, valsF v
def fW (w : WorldP) : Prop := (∀ t ∈ w.2.2.1, fT t) ∧ valsF w.2.2.2
theorem w62 (x y : WorldP) (hx : okW x) (hy : okW y) (fx : fW x) (fy : fW y) : Contract Try.prog false 62 [.ro, .ro] [worldR x.1 x.2.1 x.2.2.1 x.2.2.2, worldR y.1 y.2.1 y.2.2.1 y.2.2.2] [.b (decide (x = y))] [] := by
  refine mk_contract [] Try.func62 (c := Try.f62.body.get!) (by kernel_rfl) k62 r62 (of_decide_eq_true rfl) fun _ => ?_
  have hxy := @world_ext x y
  obtain ⟨a1, a2, ⟨a3, a4⟩, a5⟩ := hx
  obtain ⟨b1, b2, ⟨b3, b4⟩, b5⟩ := hy
  obtain ⟨g, f, ts, rs⟩ := x
  obtain ⟨g', f', ts', rs'⟩ := y
  obtain ⟨c1, c2⟩ := fx
  obtain ⟨d1, d2⟩ := fy
  simp only at a1 a2 a3 a4 a5 b1 b2 b3 b4 b5 c1 c2 d1 d2 hxy ⊢
  unfold c62; simp
  by_cases h1 : g = g'
  · refine callW_ms [.ro, .ro] ?_
    simp
    refine callX_of ((w115 g g' (by omega) (by omega)).t h1) (by simp) ?_
    simp
    by_cases h2 : f = f'
    · refine callW_ms [.ro, .ro] ?_
      simp
      refine callX_of ((w115 f f' (by omega) (by omega)).t h2) (by simp) ?_
      simp
      by_cases h3 : rs = rs'
      · refine callW_ms [.ro, .ro] ?_
        simp
        refine callX_of ((w116 rs rs' (by omega) (by omega) c2 d2).t h3) (by simp) ?_
        simp
        by_cases hll : ts.length = ts'.length
        · simp [hll]
          refine twp_for ts.length (fun j s => s.t 2 = .pt [(4, 0)] 0 0 ∧ s.t 3 = .pt [(5, 0)] 0 0 ∧ s.t 5 = .i .i64 j ∧ ts.take j = ts'.take j ∧ s.H = lk [(1, []), (4, [.po true [.sl false 1 (g.map iT), .sl false 1 (f.map iT), .sl false 3 (ts.map tbT), .sl false 4 (rs.map vT)]]), (5, [.po true [.sl false 1 (g'.map iT), .sl false 1 (f'.map iT), .sl false 3 (ts'.map tbT), .sl false 4 (rs'.map vT)]])]) [8, 9, 57, 62] (by simp) ?_ ?_
          · simp
          · rintro j s hj ⟨q2, q3, q5, hab, qH⟩
            rw [nf_of qH]
            simp [q2, q3, q5]
            refine ⟨fun hlt => ?_, fun hge => ?_⟩
            · have hw : IntKind.i64.wrap (j + 1) = j + 1 := wrap_id (by omega) (by omega)
              obtain ⟨x, hx⟩ := get_some hlt
              obtain ⟨y, hy⟩ := get_some (l := ts') (j := j) (by omega)
              have mx := List.mem_of_getElem? hx
              have my := List.mem_of_getElem? hy
              obtain ⟨p1, p2, p3, p4⟩ := a4 x mx
              obtain ⟨r1, r2, r3, r4⟩ := b4 y my
              have hne := @table_ext x y
              have hcon : x ≠ y → ¬ ts = ts' := fun h1 h2 => by subst h2; rw [hx] at hy; cases hy; exact h1 rfl
              simp [hx, hy, hw, q2, q3, q5]
              by_cases g1 : x.1 = y.1
              · refine callW_ms [.ro, .ro] ?_
                simp
                refine callX_of ((w115 x.1 y.1 (by omega) (by omega)).t g1) (by simp) ?_
                simp
                by_cases g2 : x.2.1 = y.2.1
                · refine callW_ms [.ro, .ro] ?_
                  simp
                  refine callX_of ((w117 x.2.1 y.2.1 (by omega) (by omega)).t g2) (by simp) ?_
                  simp
                  by_cases g3 : x.2.2.length = y.2.2.length
                  · simp [g3]
                    refine twp_for x.2.2.length (fun i s2 => s2.t 2 = .pt [(4, 0)] 0 0 ∧ s2.t 3 = .pt [(5, 0)] 0 0 ∧ s2.t 5 = .i .i64 j ∧ s2.t 6 = .pt [(8, 0)] 0 0 ∧ s2.t 7 = .pt [(9, 0)] 0 0 ∧ s2.t 8 = .i .i64 i ∧ x.2.2.take i = y.2.2.take i ∧ s2.H = lk [(1, []), (4, [.po true [.sl false 1 (g.map iT), .sl false 1 (f.map iT), .sl false 3 (ts.map tbT), .sl false 4 (rs.map vT)]]), (5, [.po true [.sl false 1 (g'.map iT), .sl false 1 (f'.map iT), .sl false 3 (ts'.map tbT), .sl false 4 (rs'.map vT)]]), (8, [.po true (tbT x)]), (9, [.po true (tbT y)])]) [] (by simp) ?_ ?_
                    · simp [q2, q3, q5]
                    · rintro i s2 hi ⟨p2, p3, p5, p6, p7, p8, hci, pH⟩
                      rw [nf_of pH]
                      simp [p2, p3, p5, p6, p7, p8]
                      refine ⟨fun hlt2 => ?_, fun hge2 => ?_⟩
                      · have hwi : IntKind.i64.wrap (i + 1) = i + 1 := wrap_id (by omega) (by omega)
                        obtain ⟨u, hu⟩ := get_some hlt2
                        obtain ⟨v, hv⟩ := get_some (l := y.2.2) (j := i) (by omega)
                        have mu := List.mem_of_getElem? hu
                        have mv := List.mem_of_getElem? hv
                        simp [hu, hv, p2, p3, p5, p6, p7, p8]
                        by_cases huv : u = v
                        · refine callW_ms [.ro, .ro] ?_
                          simp
                          refine callX_of ((w116 u v (by have := p4 u mu; omega) (by have := r4 v mv; omega) (c1 x mx u mu) (d1 y my v mv)).t huv) (by simp) ?_
                          simp [hwi, p2, p3, p5, p6, p7, p8]
                          exact ⟨hlt2, by rw [take_snoc hu, take_snoc hv, hci, huv]⟩
                        · refine callW_ms [.ro, .ro] ?_
                          simp
                          refine callX_of ((w116 u v (by have := p4 u mu; omega) (by have := r4 v mv; omega) (c1 x mx u mu) (d1 y my v mv)).f huv) (by simp) ?_
                          simp [hwi, p2, p3, p5, p6, p7, p8]
                          intro _ _ h5 _
                          refine hcon (fun h => huv ?_) h5
                          have h6 := (hne.1 h).2.2
                          rw [h6] at hu
                          exact Option.some.inj (hu.symm.trans hv)
                      · obtain rfl : i = x.2.2.length := by omega
                        rw [List.take_of_length_le (Nat.le_refl _), List.take_of_length_le (by omega)] at hci
                        simp [p2, p3, p5, p6, p7, p8, hw]
                        exact ⟨hlt, by rw [take_snoc hx, take_snoc hy, hab, hne.2 ⟨g1, g2, hci⟩]⟩
                  · have g3' : ¬ ((x.2.2.length : Int) = y.2.2.length) := by omega
                    simp [g3', q2, q3, q5]
                    intro _ _ h5 _; exact hcon (fun h => g3 (by rw [h])) h5
                · refine callW_ms [.ro, .ro] ?_
                  simp
                  refine callX_of ((w117 x.2.1 y.2.1 (by omega) (by omega)).f g2) (by simp) ?_
                  simp [hw, q2, q3, q5]
                  intro _ _ h5 _; exact hcon (fun h => g2 (hne.1 h).2.1) h5
              · refine callW_ms [.ro, .ro] ?_
                simp
                refine callX_of ((w115 x.1 y.1 (by omega) (by omega)).f g1) (by simp) ?_
                simp [hw, q2, q3, q5]
                intro _ _ h5 _; exact hcon (fun h => g1 (hne.1 h).1) h5
            · obtain rfl : j = ts.length := by omega
              rw [List.take_of_length_le (Nat.le_refl _), List.take_of_length_le (by omega)] at hab
              simp [h1, h2, h3, hab, q2, q3, q5]
        · have hll' : ¬ ((ts.length : Int) = ts'.length) := by omega
          simp [hll']
          intro _ _ h5 _; exact hll (by rw [h5])
      · refine callW_ms [.ro, .ro] ?_
        simp
        refine callX_of ((w116 rs rs' (by omega) (by omega) c2 d2).f h3) (by simp) ?_
        simp
        simp [hxy, h3]
    · refine callW_ms [.ro, .ro] ?_
      simp
      refine callX_of ((w115 f f' (by omega) (by omega)).f h2) (by simp) ?_
      simp
      simp [hxy, h2]
  · refine callW_ms [.ro, .ro] ?_
    simp
    refine callX_of ((w115 g g' (by omega) (by omega)).f h1) (by simp) ?_
    simp
    simp [hxy, h1]
theorem w11 (x y : WorldP) (hx : bdW x) (hy : bdW y) (fx : fW x) (fy : fW y) : Contract Try.prog false 11 [.ro, .ro] [worldR x.1 x.2.1 x.2.2.1 x.2.2.2, worldR y.1 y.2.1 y.2.2.1 y.2.2.2] [.b true] [] := by
  refine mk_contract [] Try.func11 (c := Try.f11.body.get!) (by kernel_rfl) k11 r11 (of_decide_eq_true rfl) fun _ => ?_
  unfold c11; simp
  refine callW_ms [.ro, .ro] ?_
  simp
  refine callX_of (w49 x _ hx (by omega) (by omega)) (by simp) ?_
  simp
  intro h
  obtain ⟨kx, _⟩ := szW_ok (by omega) (by omega) (by omega : ¬ szWF x 1048576 < 0)
  have hle : szWF x 1048576 ≤ 1048576 := szW_C.le x _ (by omega)
  generalize szWF x 1048576 = n at *
  refine callW_ms [.ro, .ro] ?_
  simp
  refine callX_of (w49 y n hy (by omega) (by omega)) (by simp) ?_
  simp
  intro h2
  obtain ⟨ky, _⟩ := szW_ok (by omega) (by omega) (by omega : ¬ szWF y n < 0)
  refine callW_ms [.ro] ?_
  simp
  refine callX_of (w51 x kx) (by simp) ?_
  simp
  refine callW_ms [.ro] ?_
  simp
  refine callX_of (w51 y ky) (by simp) ?_
  simp
  refine callW_ms [.ro, .ro] ?_
  simp
  refine callX_of (w62 x y kx ky fx fy) (by simp) ?_
  simp
  refine callW_ms [.ro] ?_
  simp
  refine callX_of (w51 x kx) (by simp) ?_
  simp
  refine callW_ms [.ro] ?_
  simp
  refine callX_of (w51 y ky) (by simp) ?_
  simp
  refine callW_ms [.ro, .ro] ?_
  simp
  refine callX_of (w63 x y kx ky) (by simp) ?_
  simp
  refine callW_ms [.ro] ?_
  simp
  refine callX_of (w51 x kx) (by simp) ?_
  simp
  refine callW_ms [.ro, .ro] ?_
  simp
  refine callX_of (w55 x kx) (by simp) ?_
  simp
  refine callW_ms [.ro] ?_
  simp
  refine callX_of (w51 y ky) (by simp) ?_
  simp
  refine callW_ms [.ro, .ro] ?_
  simp
  refine callX_of (w55 y ky) (by simp) ?_
  simp
end Go.Proofs.YtmedelmfkciblaaT
