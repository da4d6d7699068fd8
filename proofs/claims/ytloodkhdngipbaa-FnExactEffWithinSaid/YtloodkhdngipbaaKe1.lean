/- EffWithin. -/
import Derived.Test.YtloodkhdngipbaaKs2
import Derived.Test.YtloodkhdngipbaaKg8
import Derived.Test.YtloodkhdngipbaaKd
import Derived.Test.YtloodkhdngipbaaKh
namespace Go.Proofs.YtloodkhdngipbaaT
set_option linter.unusedVariables false
set_option linter.unusedSimpArgs false
open Go

/- (*impl.Effect).lists -/
def c117 : TCode := (.seq (.ops [⟨(some 2), 4, .mv (.c (.sl true 1 [])), none, []⟩, ⟨(some 3), 5, .mv (.c (.sl true 1 [])), none, []⟩, ⟨(some 4), 6, .mv (.c (.sl true 1 [])), none, []⟩])
  (.seq (.draw [⟨(some 5), 7, .mv (.t 0), none, []⟩, ⟨(some 6), 8, .nilck (.t 5), none, []⟩, ⟨(some 7), 9, .faddr 0 1 (.t 6), none, []⟩, ⟨(some 8), 10, .load false 1 (.t 7), none, []⟩, ⟨(some 9), 11, .mv (.t 0), none, []⟩, ⟨(some 10), 12, .nilck (.t 9), none, []⟩, ⟨(some 11), 13, .faddr 1 1 (.t 10), none, []⟩, ⟨(some 12), 14, .load false 1 (.t 11), none, []⟩, ⟨(some 13), 15, .mv (.t 0), none, []⟩, ⟨(some 14), 16, .nilck (.t 13), none, []⟩, ⟨(some 15), 17, .faddr 2 1 (.t 14), none, []⟩, ⟨(some 16), 18, .load false 1 (.t 15), none, []⟩, ⟨(some 17), 19, .mv (.t 0), none, []⟩, ⟨(some 18), 20, .nilck (.t 17), none, []⟩, ⟨(some 19), 21, .faddr 7 1 (.t 18), none, []⟩, ⟨(some 20), 22, .load false 1 (.t 19), none, []⟩, ⟨(some 21), 23, .bslice 1 4 [(.sl true 1 [])] [(0, (.t 8)), (1, (.t 12)), (2, (.t 16)), (3, (.t 20))], none, []⟩, ⟨(some 22), 24, .mv (.t 0), none, [16]⟩, ⟨(some 23), 25, .nilck (.t 22), none, [16]⟩, ⟨(some 24), 26, .faddr 3 1 (.t 23), none, [16]⟩, ⟨(some 25), 27, .load false 1 (.t 24), none, [16]⟩, ⟨(some 26), 28, .mv (.t 0), none, [16]⟩, ⟨(some 27), 29, .nilck (.t 26), none, [16]⟩, ⟨(some 28), 30, .faddr 4 1 (.t 27), none, [16]⟩, ⟨(some 29), 31, .load false 1 (.t 28), none, [16]⟩, ⟨(some 30), 32, .bslice 1 2 [(.sl true 1 [])] [(0, (.t 25)), (1, (.t 29))], none, [0, 1, 2, 3, 4, 5, 6, 7, 8, 9, 10, 11, 12, 13, 14, 15, 16]⟩, ⟨(some 31), 33, .mv (.t 0), none, [16, 25]⟩, ⟨(some 32), 34, .nilck (.t 31), none, [16, 25]⟩, ⟨(some 33), 35, .faddr 5 1 (.t 32), none, [16, 25]⟩, ⟨(some 34), 36, .load false 1 (.t 33), none, [16, 25]⟩, ⟨(some 35), 37, .mv (.t 0), none, [16, 25]⟩, ⟨(some 36), 38, .nilck (.t 35), none, [16, 25]⟩, ⟨(some 37), 39, .faddr 6 1 (.t 36), none, [16, 25]⟩, ⟨(some 38), 40, .load false 1 (.t 37), none, [16, 25]⟩, ⟨(some 39), 41, .bslice 1 2 [(.sl true 1 [])] [(0, (.t 34)), (1, (.t 38))], none, [0, 1, 2, 3, 4, 5, 6, 7, 8, 9, 10, 11, 12, 13, 14, 15, 16, 17, 18, 19, 20, 21, 22, 23, 24, 25]⟩, ⟨(some 2), 4, .mv (.t 21), none, [25, 34]⟩, ⟨(some 3), 5, .mv (.t 30), none, [34]⟩, ⟨(some 4), 6, .mv (.t 39), none, []⟩])
  .ret))
theorem k117 : compCode Try.prog Try.f117.ntmps Try.f117.body.get! = some c117 := by kernel_rfl
theorem r117 : resTmps Try.prog Try.f117.results.toList = some [.tmp 2, .tmp 3, .tmp 4] := by kernel_rfl
/- slices.Concat[[][]int,[]int] -/
def c118 : TCode := (.seq (.ops [⟨(some 2), 4, .mv (.c (.sl true 1 [])), none, []⟩])
  (.seq (.ops [⟨(some 3), 5, .mv (.c (.i .i64 0)), none, []⟩])
  (.seq (.seq (.ops [⟨(some 9), 11, .mv (.t 0), none, []⟩, ⟨(some 10), 12, .len false (.t 9), none, []⟩, ⟨(some 11), 13, .mv (.c (.i .i64 0)), none, []⟩])
  (.block 0 (.loop (.seq (.ops [⟨(some 12), 14, .bin .lss (.t 11) (.t 10), none, []⟩])
  (.seq (.cond (.t 12)
  .skip
  (.exit 0))
  (.seq (.block 1 (.seq (.ops [⟨(some 13), 15, .iaddr 1 (.t 9) (.t 11), none, []⟩, ⟨(some 14), 16, .load false 1 (.t 13), none, []⟩, ⟨(some 5), 7, .mv (.t 14), none, []⟩])
  (.seq (.ops [⟨(some 15), 17, .mv (.t 3), none, []⟩, ⟨(some 16), 18, .mv (.t 5), none, []⟩, ⟨(some 17), 19, .len false (.t 16), none, []⟩, ⟨(some 18), 20, .bin .add (.t 15) (.t 17), none, []⟩, ⟨(some 3), 5, .mv (.t 18), none, []⟩])
  (.seq (.ops [⟨(some 19), 21, .mv (.t 3), none, []⟩, ⟨(some 20), 22, .bin .lss (.t 19) (.c (.i .i64 0)), none, []⟩])
  (.cond (.t 20)
  (.ops [⟨(some 21), 23, .callv (.c .junk) [], none, []⟩, ⟨none, 1007001, .callv (.c .junk) [], none, []⟩])
  .skip)))))
  (.ops [⟨(some 22), 24, .bin .add (.t 11) (.c (.i .i64 1)), none, []⟩, ⟨(some 11), 13, .mv (.t 22), none, []⟩])))))))
  (.seq (.ops [⟨(some 23), 25, .mv (.t 3), none, []⟩, ⟨(some 24), 26, .call 150 [((.c (.sl true 1 [])), 0), ((.t 23), 0)], none, []⟩, ⟨(some 6), 8, .mv (.t 24), none, []⟩])
  (.seq (.seq (.ops [⟨(some 25), 27, .mv (.t 0), none, []⟩, ⟨(some 26), 28, .len false (.t 25), none, []⟩, ⟨(some 27), 29, .mv (.c (.i .i64 0)), none, []⟩])
  (.block 2 (.loop (.seq (.ops [⟨(some 28), 30, .bin .lss (.t 27) (.t 26), none, []⟩])
  (.seq (.cond (.t 28)
  .skip
  (.exit 2))
  (.seq (.block 3 (.seq (.ops [⟨(some 29), 31, .iaddr 1 (.t 25) (.t 27), none, []⟩, ⟨(some 30), 32, .load false 1 (.t 29), none, []⟩, ⟨(some 8), 10, .mv (.t 30), none, []⟩])
  (.ops [⟨(some 31), 33, .mv (.t 6), none, []⟩, ⟨(some 32), 34, .mv (.t 8), none, []⟩, ⟨(some 33), 35, .app 1 24 (.t 31) (.t 32), none, []⟩, ⟨(some 6), 8, .mv (.t 33), none, []⟩])))
  (.ops [⟨(some 34), 36, .bin .add (.t 27) (.c (.i .i64 1)), none, []⟩, ⟨(some 27), 29, .mv (.t 34), none, []⟩])))))))
  (.seq (.ops [⟨(some 35), 37, .mv (.t 6), none, []⟩, ⟨(some 2), 4, .mv (.t 35), none, []⟩])
  .ret))))))
theorem k118 : compCode Try.prog Try.f118.ntmps Try.f118.body.get! = some c118 := by kernel_rfl
theorem r118 : resTmps Try.prog Try.f118.results.toList = some [.tmp 2] := by kernel_rfl
/- impl.isIn$1 -/
def c152 : TCode := (.seq (.ops [⟨(some 3), 5, .mv (.c (.b false)), none, []⟩])
  (.seq (.ops [⟨(some 4), 6, .load false 1 (.t 1), none, []⟩, ⟨(some 5), 7, .mv (.t 0), none, []⟩, ⟨(some 6), 8, .call 138 [((.t 4), 0), ((.t 5), 0)], none, []⟩, ⟨(some 7), 9, .un .not (.t 6), none, []⟩, ⟨(some 3), 5, .mv (.t 7), none, []⟩])
  .ret))
theorem k152 : compCode Try.prog Try.f152.ntmps Try.f152.body.get! = some c152 := by kernel_rfl
theorem r152 : resTmps Try.prog Try.f152.results.toList = some [.tmp 3] := by kernel_rfl
/- slices.IndexFunc[[]int,int] -/
def c161 : TCode := (.seq (.ops [⟨(some 4), 6, .mv (.c (.i .i64 0)), none, []⟩])
  (.seq (.seq (.ops [⟨(some 6), 8, .mv (.t 0), none, []⟩, ⟨(some 7), 9, .len false (.t 6), none, []⟩, ⟨(some 8), 10, .mv (.c (.i .i64 0)), none, []⟩])
  (.block 0 (.loop (.seq (.ops [⟨(some 9), 11, .bin .lss (.t 8) (.t 7), none, []⟩])
  (.seq (.cond (.t 9)
  .skip
  (.exit 0))
  (.seq (.block 1 (.seq (.ops [⟨(some 10), 12, .mv (.t 8), none, []⟩, ⟨(some 5), 7, .mv (.t 10), none, []⟩])
  (.seq (.ops [⟨(some 11), 13, .mv (.t 1), none, []⟩, ⟨(some 12), 14, .mv (.t 0), none, []⟩, ⟨(some 13), 15, .mv (.t 5), none, []⟩, ⟨(some 14), 16, .iaddr 1 (.t 12) (.t 13), none, []⟩, ⟨(some 15), 17, .load false 1 (.t 14), none, []⟩, ⟨(some 16), 18, .callv (.t 11) [((.t 15), 0)], none, []⟩])
  (.cond (.t 16)
  (.seq (.ops [⟨(some 17), 19, .mv (.t 5), none, []⟩, ⟨(some 4), 6, .mv (.t 17), none, []⟩])
  .ret)
  .skip))))
  (.ops [⟨(some 18), 20, .bin .add (.t 8) (.c (.i .i64 1)), none, []⟩, ⟨(some 8), 10, .mv (.t 18), none, []⟩])))))))
  (.seq (.ops [⟨(some 4), 6, .mv (.c (.i .i64 (-1))), none, []⟩])
  .ret)))
theorem k161 : compCode Try.prog Try.f161.ntmps Try.f161.body.get! = some c161 := by kernel_rfl
theorem r161 : resTmps Try.prog Try.f161.results.toList = some [.tmp 4] := by kernel_rfl
/- slices.ContainsFunc[[]int,int] -/
def c151 : TCode := (.seq (.ops [⟨(some 4), 6, .mv (.c (.b false)), none, []⟩])
  (.seq (.ops [⟨(some 5), 7, .mv (.t 0), none, []⟩, ⟨(some 6), 8, .mv (.t 1), none, []⟩, ⟨(some 7), 9, .call 161 [((.t 5), 0), ((.t 6), 0)], none, []⟩, ⟨(some 8), 10, .bin .geq (.t 7) (.c (.i .i64 0)), none, []⟩, ⟨(some 4), 6, .mv (.t 8), none, []⟩])
  .ret))
theorem k151 : compCode Try.prog Try.f151.ntmps Try.f151.body.get! = some c151 := by kernel_rfl
theorem r151 : resTmps Try.prog Try.f151.results.toList = some [.tmp 4] := by kernel_rfl
/- impl.isIn -/
def c119 : TCode := (.seq (.ops [⟨(some 3), 5, .box 1 (.t 1), none, []⟩, ⟨(some 4), 6, .mv (.c (.b false)), none, []⟩])
  (.seq (.ops [⟨(some 5), 7, .mv (.t 0), none, []⟩, ⟨(some 6), 8, .mkfn 152 [(.t 3)], none, []⟩, ⟨(some 7), 9, .call 151 [((.t 5), 0), ((.t 6), 0)], none, []⟩, ⟨(some 8), 10, .un .not (.t 7), none, []⟩, ⟨(some 4), 6, .mv (.t 8), none, []⟩])
  .ret))
theorem k119 : compCode Try.prog Try.f119.ntmps Try.f119.body.get! = some c119 := by kernel_rfl
theorem r119 : resTmps Try.prog Try.f119.results.toList = some [.tmp 4] := by kernel_rfl
/- impl.EffWithin -/
def c63 : TCode := (.seq (.ops [⟨(some 2), 4, .box 10 (.t 0), none, []⟩, ⟨(some 3), 5, .box 10 (.t 1), none, []⟩, ⟨(some 4), 6, .mv (.c (.b false)), none, []⟩])
  (.seq (.ops [⟨(some 16), 18, .call 117 [((.t 2), 0)], none, []⟩, ⟨(some 15), 17, .mv (.t 16), none, []⟩, ⟨(some 17), 19, .ext 0 (.t 15), none, []⟩, ⟨(some 18), 20, .ext 1 (.t 15), none, []⟩, ⟨(some 19), 21, .ext 2 (.t 15), none, []⟩, ⟨(some 5), 7, .mv (.t 17), none, []⟩, ⟨(some 6), 8, .mv (.t 18), none, []⟩, ⟨(some 7), 9, .mv (.t 19), none, []⟩])
  (.seq (.ops [⟨(some 21), 23, .call 117 [((.t 3), 0)], none, []⟩, ⟨(some 20), 22, .mv (.t 21), none, []⟩, ⟨(some 22), 24, .ext 0 (.t 20), none, []⟩, ⟨(some 23), 25, .ext 1 (.t 20), none, []⟩, ⟨(some 24), 26, .ext 2 (.t 20), none, []⟩, ⟨(some 8), 10, .mv (.t 22), none, []⟩, ⟨(some 9), 11, .mv (.t 23), none, []⟩, ⟨(some 10), 12, .mv (.t 24), none, []⟩])
  (.seq (.ops [⟨(some 25), 27, .mv (.t 5), none, []⟩, ⟨(some 26), 28, .mv (.t 6), none, []⟩, ⟨(some 27), 29, .mv (.t 7), none, []⟩, ⟨(some 28), 30, .bslice 1 3 [(.sl true 1 [])] [(0, (.t 25)), (1, (.t 26)), (2, (.t 27))], none, []⟩, ⟨(some 29), 31, .call 118 [((.t 28), 0)], none, []⟩, ⟨(some 30), 32, .mv (.t 8), none, []⟩, ⟨(some 31), 33, .mv (.t 9), none, []⟩, ⟨(some 32), 34, .mv (.t 10), none, []⟩, ⟨(some 33), 35, .bslice 1 3 [(.sl true 1 [])] [(0, (.t 30)), (1, (.t 31)), (2, (.t 32))], none, []⟩, ⟨(some 34), 36, .call 118 [((.t 33), 0)], none, []⟩, ⟨(some 11), 13, .mv (.t 29), none, []⟩, ⟨(some 12), 14, .mv (.t 34), none, []⟩])
  (.seq (.seq (.ops [⟨(some 35), 37, .mv (.t 11), none, []⟩, ⟨(some 36), 38, .len false (.t 35), none, []⟩, ⟨(some 37), 39, .mv (.c (.i .i64 0)), none, []⟩])
  (.block 0 (.loop (.seq (.ops [⟨(some 38), 40, .bin .lss (.t 37) (.t 36), none, []⟩])
  (.seq (.cond (.t 38)
  .skip
  (.exit 0))
  (.seq (.block 1 (.seq (.ops [⟨(some 39), 41, .mv (.t 37), none, []⟩, ⟨(some 40), 42, .iaddr 1 (.t 35) (.t 37), none, []⟩, ⟨(some 41), 43, .load false 1 (.t 40), none, []⟩, ⟨(some 13), 15, .mv (.t 39), none, []⟩, ⟨(some 14), 16, .mv (.t 41), none, []⟩])
  (.seq (.ops [⟨(some 42), 44, .mv (.t 14), none, []⟩, ⟨(some 43), 45, .mv (.t 12), none, []⟩, ⟨(some 44), 46, .mv (.t 13), none, []⟩, ⟨(some 45), 47, .iaddr 1 (.t 43) (.t 44), none, []⟩, ⟨(some 46), 48, .load false 1 (.t 45), none, []⟩, ⟨(some 47), 49, .call 119 [((.t 42), 0), ((.t 46), 0)], none, []⟩, ⟨(some 48), 50, .un .not (.t 47), none, []⟩])
  (.cond (.t 48)
  (.seq (.ops [⟨(some 4), 6, .mv (.c (.b false)), none, []⟩])
  .ret)
  .skip))))
  (.ops [⟨(some 49), 51, .bin .add (.t 37) (.c (.i .i64 1)), none, []⟩, ⟨(some 37), 39, .mv (.t 49), none, []⟩])))))))
  (.seq (.ops [⟨(some 50), 52, .faddr 8 1 (.t 2), none, []⟩, ⟨(some 51), 53, .load false 1 (.t 50), none, []⟩, ⟨(some 52), 54, .un .not (.t 51), none, []⟩, ⟨(some 53), 55, .mv (.t 52), none, []⟩, ⟨(some 54), 56, .faddr 8 1 (.t 3), (some (53, false)), []⟩, ⟨(some 55), 57, .load false 1 (.t 54), (some (53, false)), []⟩, ⟨(some 56), 58, .pick (.t 53) (.c (.b true)) (.t 55), none, []⟩, ⟨(some 57), 59, .mv (.t 56), none, []⟩, ⟨(some 58), 60, .faddr 9 1 (.t 2), (some (57, true)), []⟩, ⟨(some 59), 61, .load false 1 (.t 58), (some (57, true)), []⟩, ⟨(some 60), 62, .un .not (.t 59), (some (57, true)), []⟩, ⟨(some 61), 63, .mv (.t 60), (some (57, true)), []⟩, ⟨(some 62), 64, .faddr 9 1 (.t 3), (some (61, false)), []⟩, ⟨(some 63), 65, .load false 1 (.t 62), (some (61, false)), []⟩, ⟨(some 64), 66, .pick (.t 61) (.c (.b true)) (.t 63), (some (57, true)), []⟩, ⟨(some 65), 67, .pick (.t 57) (.t 64) (.c (.b false)), none, []⟩, ⟨(some 4), 6, .mv (.t 65), none, []⟩])
  .ret))))))
theorem k63 : compCode Try.prog Try.f63.ntmps Try.f63.body.get! = some c63 := by kernel_rfl
theorem r63 : resTmps Try.prog Try.f63.results.toList = some [.tmp 4] := by kernel_rfl
/- spec.l10In -/
def c116 : TCode := (.seq (.ops [⟨(some 4), 6, .mv (.c (.b false)), none, []⟩])
  (.seq (.ops [⟨(some 9), 11, .mv (.t 0), none, []⟩, ⟨(some 10), 12, .call 149 [((.t 9), 0)], none, []⟩, ⟨(some 11), 13, .mv (.t 1), none, []⟩, ⟨(some 12), 14, .call 149 [((.t 11), 0)], none, []⟩, ⟨(some 5), 7, .mv (.t 10), none, []⟩, ⟨(some 6), 8, .mv (.t 12), none, []⟩])
  (.seq (.ops [⟨(some 7), 9, .mv (.c (.i .i64 0)), none, []⟩])
  (.seq (.seq (.ops [⟨(some 8), 10, .mv (.c (.i .i64 0)), none, []⟩])
  (.block 0 (.loop (.seq (.seq (.ops [⟨(some 13), 15, .mv (.t 8), none, []⟩, ⟨(some 14), 16, .mv (.t 5), none, []⟩, ⟨(some 15), 17, .len false (.t 14), none, []⟩, ⟨(some 16), 18, .bin .lss (.t 13) (.t 15), none, []⟩])
  (.cond (.t 16)
  .skip
  (.exit 0)))
  (.seq (.block 1 (.seq (.block 2 (.loop (.seq (.seq (.draw [⟨(some 19), 21, .mv (.t 7), none, []⟩, ⟨(some 20), 22, .mv (.t 6), none, []⟩, ⟨(some 21), 23, .len false (.t 20), none, []⟩, ⟨(some 22), 24, .bin .lss (.t 19) (.t 21), none, []⟩, ⟨(some 23), 25, .mv (.t 22), none, []⟩, ⟨(some 24), 26, .mv (.t 6), (some (23, true)), []⟩, ⟨(some 25), 27, .mv (.t 7), (some (23, true)), []⟩, ⟨(some 26), 28, .iaddr 1 (.t 24) (.t 25), (some (23, true)), []⟩, ⟨(some 27), 29, .load false 1 (.t 26), (some (23, true)), []⟩, ⟨(some 28), 30, .mv (.t 5), (some (23, true)), []⟩, ⟨(some 29), 31, .mv (.t 8), (some (23, true)), []⟩, ⟨(some 30), 32, .iaddr 1 (.t 28) (.t 29), (some (23, true)), []⟩, ⟨(some 31), 33, .load false 1 (.t 30), (some (23, true)), []⟩, ⟨(some 32), 34, .bin .lss (.t 27) (.t 31), (some (23, true)), []⟩, ⟨(some 33), 35, .pick (.t 23) (.t 32) (.c (.b false)), none, []⟩])
  (.cond (.t 33)
  .skip
  (.exit 2)))
  (.block 3 (.ops [⟨(some 34), 36, .mv (.t 7), none, []⟩, ⟨(some 35), 37, .bin .add (.t 34) (.c (.i .i64 1)), none, []⟩, ⟨(some 7), 9, .mv (.t 35), none, []⟩])))))
  (.seq (.draw [⟨(some 36), 38, .mv (.t 7), none, []⟩, ⟨(some 37), 39, .mv (.t 6), none, []⟩, ⟨(some 38), 40, .len false (.t 37), none, []⟩, ⟨(some 39), 41, .bin .geq (.t 36) (.t 38), none, []⟩, ⟨(some 40), 42, .mv (.t 39), none, []⟩, ⟨(some 41), 43, .mv (.t 6), (some (40, false)), []⟩, ⟨(some 42), 44, .mv (.t 7), (some (40, false)), []⟩, ⟨(some 43), 45, .iaddr 1 (.t 41) (.t 42), (some (40, false)), []⟩, ⟨(some 44), 46, .load false 1 (.t 43), (some (40, false)), []⟩, ⟨(some 45), 47, .mv (.t 5), (some (40, false)), []⟩, ⟨(some 46), 48, .mv (.t 8), (some (40, false)), []⟩, ⟨(some 47), 49, .iaddr 1 (.t 45) (.t 46), (some (40, false)), []⟩, ⟨(some 48), 50, .load false 1 (.t 47), (some (40, false)), []⟩, ⟨(some 49), 51, .bin .neq (.t 44) (.t 48), (some (40, false)), []⟩, ⟨(some 50), 52, .pick (.t 40) (.c (.b true)) (.t 49), none, []⟩])
  (.cond (.t 50)
  (.seq (.ops [⟨(some 4), 6, .mv (.c (.b false)), none, []⟩])
  .ret)
  .skip))))
  (.ops [⟨(some 17), 19, .mv (.t 8), none, []⟩, ⟨(some 18), 20, .bin .add (.t 17) (.c (.i .i64 1)), none, []⟩, ⟨(some 8), 10, .mv (.t 18), none, []⟩]))))))
  (.seq (.ops [⟨(some 4), 6, .mv (.c (.b true)), none, []⟩])
  .ret)))))
theorem k116 : compCode Try.prog Try.f116.ntmps Try.f116.body.get! = some c116 := by kernel_rfl
theorem r116 : resTmps Try.prog Try.f116.results.toList = some [.tmp 4] := by kernel_rfl
/- spec.EffWithin -/
def c61 : TCode := (.seq (.ops [⟨(some 2), 4, .box 10 (.t 0), none, []⟩, ⟨(some 3), 5, .box 10 (.t 1), none, []⟩, ⟨(some 4), 6, .mv (.c (.b false)), none, []⟩])
  (.seq (.ops [⟨(some 5), 7, .faddr 0 1 (.t 2), none, []⟩, ⟨(some 6), 8, .load false 1 (.t 5), none, []⟩, ⟨(some 7), 9, .faddr 0 1 (.t 3), none, []⟩, ⟨(some 8), 10, .load false 1 (.t 7), none, []⟩, ⟨(some 9), 11, .call 116 [((.t 6), 0), ((.t 8), 0)], none, []⟩, ⟨(some 10), 12, .mv (.t 9), none, []⟩, ⟨(some 11), 13, .faddr 1 1 (.t 2), (some (10, true)), []⟩, ⟨(some 12), 14, .load false 1 (.t 11), (some (10, true)), []⟩, ⟨(some 13), 15, .faddr 1 1 (.t 3), (some (10, true)), []⟩, ⟨(some 14), 16, .load false 1 (.t 13), (some (10, true)), []⟩, ⟨(some 15), 17, .call 116 [((.t 12), 0), ((.t 14), 0)], (some (10, true)), []⟩, ⟨(some 16), 18, .pick (.t 10) (.t 15) (.c (.b false)), none, []⟩, ⟨(some 17), 19, .mv (.t 16), none, []⟩, ⟨(some 18), 20, .faddr 2 1 (.t 2), (some (17, true)), []⟩, ⟨(some 19), 21, .load false 1 (.t 18), (some (17, true)), []⟩, ⟨(some 20), 22, .faddr 2 1 (.t 3), (some (17, true)), []⟩, ⟨(some 21), 23, .load false 1 (.t 20), (some (17, true)), []⟩, ⟨(some 22), 24, .call 116 [((.t 19), 0), ((.t 21), 0)], (some (17, true)), []⟩, ⟨(some 23), 25, .pick (.t 17) (.t 22) (.c (.b false)), none, []⟩, ⟨(some 24), 26, .mv (.t 23), none, []⟩, ⟨(some 25), 27, .faddr 3 1 (.t 2), (some (24, true)), []⟩, ⟨(some 26), 28, .load false 1 (.t 25), (some (24, true)), []⟩, ⟨(some 27), 29, .faddr 3 1 (.t 3), (some (24, true)), []⟩, ⟨(some 28), 30, .load false 1 (.t 27), (some (24, true)), []⟩, ⟨(some 29), 31, .call 116 [((.t 26), 0), ((.t 28), 0)], (some (24, true)), []⟩, ⟨(some 30), 32, .pick (.t 24) (.t 29) (.c (.b false)), none, []⟩, ⟨(some 31), 33, .mv (.t 30), none, []⟩, ⟨(some 32), 34, .faddr 4 1 (.t 2), (some (31, true)), []⟩, ⟨(some 33), 35, .load false 1 (.t 32), (some (31, true)), []⟩, ⟨(some 34), 36, .faddr 4 1 (.t 3), (some (31, true)), []⟩, ⟨(some 35), 37, .load false 1 (.t 34), (some (31, true)), []⟩, ⟨(some 36), 38, .call 116 [((.t 33), 0), ((.t 35), 0)], (some (31, true)), []⟩, ⟨(some 37), 39, .pick (.t 31) (.t 36) (.c (.b false)), none, []⟩, ⟨(some 38), 40, .mv (.t 37), none, []⟩, ⟨(some 39), 41, .faddr 5 1 (.t 2), (some (38, true)), []⟩, ⟨(some 40), 42, .load false 1 (.t 39), (some (38, true)), []⟩, ⟨(some 41), 43, .faddr 5 1 (.t 3), (some (38, true)), []⟩, ⟨(some 42), 44, .load false 1 (.t 41), (some (38, true)), []⟩, ⟨(some 43), 45, .call 116 [((.t 40), 0), ((.t 42), 0)], (some (38, true)), []⟩, ⟨(some 44), 46, .pick (.t 38) (.t 43) (.c (.b false)), none, []⟩, ⟨(some 45), 47, .mv (.t 44), none, []⟩, ⟨(some 46), 48, .faddr 6 1 (.t 2), (some (45, true)), []⟩, ⟨(some 47), 49, .load false 1 (.t 46), (some (45, true)), []⟩, ⟨(some 48), 50, .faddr 6 1 (.t 3), (some (45, true)), []⟩, ⟨(some 49), 51, .load false 1 (.t 48), (some (45, true)), []⟩, ⟨(some 50), 52, .call 116 [((.t 47), 0), ((.t 49), 0)], (some (45, true)), []⟩, ⟨(some 51), 53, .pick (.t 45) (.t 50) (.c (.b false)), none, []⟩, ⟨(some 52), 54, .mv (.t 51), none, []⟩, ⟨(some 53), 55, .faddr 7 1 (.t 2), (some (52, true)), []⟩, ⟨(some 54), 56, .load false 1 (.t 53), (some (52, true)), []⟩, ⟨(some 55), 57, .faddr 7 1 (.t 3), (some (52, true)), []⟩, ⟨(some 56), 58, .load false 1 (.t 55), (some (52, true)), []⟩, ⟨(some 57), 59, .call 116 [((.t 54), 0), ((.t 56), 0)], (some (52, true)), []⟩, ⟨(some 58), 60, .pick (.t 52) (.t 57) (.c (.b false)), none, []⟩, ⟨(some 59), 61, .mv (.t 58), none, []⟩, ⟨(some 60), 62, .faddr 8 1 (.t 3), (some (59, true)), []⟩, ⟨(some 61), 63, .load false 1 (.t 60), (some (59, true)), []⟩, ⟨(some 62), 64, .mv (.t 61), (some (59, true)), []⟩, ⟨(some 63), 65, .faddr 8 1 (.t 2), (some (62, false)), []⟩, ⟨(some 64), 66, .load false 1 (.t 63), (some (62, false)), []⟩, ⟨(some 65), 67, .un .not (.t 64), (some (62, false)), []⟩, ⟨(some 66), 68, .pick (.t 62) (.c (.b true)) (.t 65), (some (59, true)), []⟩, ⟨(some 67), 69, .pick (.t 59) (.t 66) (.c (.b false)), none, []⟩, ⟨(some 68), 70, .mv (.t 67), none, []⟩, ⟨(some 69), 71, .faddr 9 1 (.t 3), (some (68, true)), []⟩, ⟨(some 70), 72, .load false 1 (.t 69), (some (68, true)), []⟩, ⟨(some 71), 73, .mv (.t 70), (some (68, true)), []⟩, ⟨(some 72), 74, .faddr 9 1 (.t 2), (some (71, false)), []⟩, ⟨(some 73), 75, .load false 1 (.t 72), (some (71, false)), []⟩, ⟨(some 74), 76, .un .not (.t 73), (some (71, false)), []⟩, ⟨(some 75), 77, .pick (.t 71) (.c (.b true)) (.t 74), (some (68, true)), []⟩, ⟨(some 76), 78, .pick (.t 68) (.t 75) (.c (.b false)), none, []⟩, ⟨(some 4), 6, .mv (.t 76), none, []⟩])
  .ret))
theorem k61 : compCode Try.prog Try.f61.ntmps Try.f61.body.get! = some c61 := by kernel_rfl
theorem r61 : resTmps Try.prog Try.f61.results.toList = some [.tmp 4] := by kernel_rfl
/- laws.FnExactEffWithin -/
def c13 : TCode := (.seq (.ops [⟨(some 2), 4, .box 10 (.t 0), none, []⟩, ⟨(some 3), 5, .box 10 (.t 1), none, []⟩, ⟨(some 4), 6, .mv (.c (.b false)), none, []⟩])
  (.seq (.ops [⟨(some 5), 7, .mv (.c (.i .i64 1048576)), none, []⟩])
  (.seq (.ops [⟨(some 10), 12, .load true 10 (.t 2), none, []⟩, ⟨(some 11), 13, .mv (.t 5), none, []⟩, ⟨(some 12), 14, .call 60 [((.t 10), 0), ((.t 11), 0)], none, []⟩, ⟨(some 5), 7, .mv (.t 12), none, []⟩])
  (.seq (.seq (.ops [⟨(some 13), 15, .mv (.t 5), none, []⟩, ⟨(some 14), 16, .bin .lss (.t 13) (.c (.i .i64 0)), none, []⟩])
  (.cond (.t 14)
  (.seq (.ops [⟨(some 4), 6, .mv (.c (.b true)), none, []⟩])
  .ret)
  .skip))
  (.seq (.ops [⟨(some 15), 17, .load true 10 (.t 3), none, []⟩, ⟨(some 16), 18, .mv (.t 5), none, []⟩, ⟨(some 17), 19, .call 60 [((.t 15), 0), ((.t 16), 0)], none, []⟩, ⟨(some 5), 7, .mv (.t 17), none, []⟩])
  (.seq (.seq (.ops [⟨(some 18), 20, .mv (.t 5), none, []⟩, ⟨(some 19), 21, .bin .lss (.t 18) (.c (.i .i64 0)), none, []⟩])
  (.cond (.t 19)
  (.seq (.ops [⟨(some 4), 6, .mv (.c (.b true)), none, []⟩])
  .ret)
  .skip))
  (.seq (.draw [⟨(some 20), 22, .load true 10 (.t 2), none, []⟩, ⟨(some 21), 23, .call 62 [((.t 20), 0)], none, []⟩, ⟨(some 22), 24, .load true 10 (.t 3), none, [1]⟩, ⟨(some 23), 25, .call 62 [((.t 22), 0)], none, []⟩, ⟨(some 24), 26, .call 61 [((.t 21), 0), ((.t 23), 0)], none, []⟩, ⟨(some 6), 8, .mv (.t 24), none, []⟩])
  (.seq (.ops [⟨(some 25), 27, .load true 10 (.t 2), none, []⟩, ⟨(some 26), 28, .call 62 [((.t 25), 0)], none, []⟩, ⟨(some 7), 9, .box 10 (.c (.ag [(.sl true 1 []), (.sl true 1 []), (.sl true 1 []), (.sl true 1 []), (.sl true 1 []), (.sl true 1 []), (.sl true 1 []), (.sl true 1 []), (.b false), (.b false)])), none, []⟩, ⟨none, 1009003, .store 10 (.t 7) (.t 26), none, []⟩])
  (.seq (.ops [⟨(some 27), 29, .load true 10 (.t 3), none, []⟩, ⟨(some 28), 30, .call 62 [((.t 27), 0)], none, []⟩, ⟨(some 8), 10, .box 10 (.c (.ag [(.sl true 1 []), (.sl true 1 []), (.sl true 1 []), (.sl true 1 []), (.sl true 1 []), (.sl true 1 []), (.sl true 1 []), (.sl true 1 []), (.b false), (.b false)])), none, []⟩, ⟨none, 1010003, .store 10 (.t 8) (.t 28), none, []⟩])
  (.seq (.ops [⟨(some 29), 31, .load true 10 (.t 7), none, []⟩, ⟨(some 30), 32, .load true 10 (.t 8), none, []⟩, ⟨(some 31), 33, .call 63 [((.t 29), 0), ((.t 30), 0)], none, []⟩, ⟨(some 9), 11, .mv (.t 31), none, []⟩])
  (.seq (.seq (.ops [⟨(some 32), 34, .mv (.t 9), none, []⟩, ⟨(some 33), 35, .mv (.t 6), none, []⟩, ⟨(some 34), 36, .eqs true false [.b] (.t 32) (.t 33), none, []⟩])
  (.cond (.t 34)
  (.seq (.ops [⟨(some 4), 6, .mv (.c (.b false)), none, []⟩])
  .ret)
  .skip))
  (.seq (.seq (.draw [⟨(some 35), 37, .load true 10 (.t 7), none, []⟩, ⟨(some 36), 38, .load true 10 (.t 2), none, []⟩, ⟨(some 37), 39, .call 62 [((.t 36), 0)], none, [0]⟩, ⟨(some 38), 40, .call 64 [((.t 35), 0), ((.t 37), 0)], none, []⟩, ⟨(some 39), 41, .un .not (.t 38), none, []⟩])
  (.cond (.t 39)
  (.seq (.ops [⟨(some 4), 6, .mv (.c (.b false)), none, []⟩])
  .ret)
  .skip))
  (.seq (.seq (.draw [⟨(some 40), 42, .load true 10 (.t 8), none, []⟩, ⟨(some 41), 43, .load true 10 (.t 3), none, []⟩, ⟨(some 42), 44, .call 62 [((.t 41), 0)], none, [0]⟩, ⟨(some 43), 45, .call 64 [((.t 40), 0), ((.t 42), 0)], none, []⟩, ⟨(some 44), 46, .un .not (.t 43), none, []⟩])
  (.cond (.t 44)
  (.seq (.ops [⟨(some 4), 6, .mv (.c (.b false)), none, []⟩])
  .ret)
  .skip))
  (.seq (.ops [⟨(some 4), 6, .mv (.c (.b true)), none, []⟩])
  .ret))))))))))))))
theorem k13 : compCode Try.prog Try.f13.ntmps Try.f13.body.get! = some c13 := by kernel_rfl
theorem r13 : resTmps Try.prog Try.f13.results.toList = some [.tmp 4] := by kernel_rfl

@[simp] def rT (l : List Int) : List TV := [.sl false 1 (l.map iT)]
@[simp] theorem fzL_rT (l : List Int) : fzL (rT l) = rT l := by simp [fzL, fz]
@[simp] theorem fzLL_rT (l : List (List Int)) : fzLL (l.map rT) = l.map rT := fzLL_map fzL_rT l
@[simp] theorem noref_rT (l : List (List Int)) : (l.map rT).all (·.all noref) = true := noref_map (fun _ => rfl) l
@[simp] theorem srcT_rT (H : Hp) (z : Nat) (l : List (List Int)) : srcT H (.sl false z (l.map rT)) = some (z, l.map rT, H, []) := by simp only [srcT, noref_rT, if_true]
def effLo (e : EffP) : List (List Int) := [e.1, e.2.1, e.2.2.1, e.2.2.2.2.2.2.2.1, e.2.2.2.1, e.2.2.2.2.1, e.2.2.2.2.2.1, e.2.2.2.2.2.2.1]
def lsA (e : EffP) : List (List Int) := [e.1, e.2.1, e.2.2.1, e.2.2.2.2.2.2.2.1]
def lsB (e : EffP) : List (List Int) := [e.2.2.2.1, e.2.2.2.2.1]
def lsC (e : EffP) : List (List Int) := [e.2.2.2.2.2.1, e.2.2.2.2.2.2.1]
set_option maxRecDepth 100000 in
theorem w117 (e : EffP) : Contract Try.prog true 117 [.own] [.po true [.sl false 1 (e.1.map iT), .sl false 1 (e.2.1.map iT), .sl false 1 (e.2.2.1.map iT), .sl false 1 (e.2.2.2.1.map iT), .sl false 1 (e.2.2.2.2.1.map iT), .sl false 1 (e.2.2.2.2.2.1.map iT), .sl false 1 (e.2.2.2.2.2.2.1.map iT), .sl false 1 (e.2.2.2.2.2.2.2.1.map iT), .b e.2.2.2.2.2.2.2.2.1, .b e.2.2.2.2.2.2.2.2.2]] [.sl true 1 ((lsA e).map rT), .sl true 1 ((lsB e).map rT), .sl true 1 ((lsC e).map rT)] [some (.po true [.sl false 1 (e.1.map iT), .sl false 1 (e.2.1.map iT), .sl false 1 (e.2.2.1.map iT), .sl false 1 (e.2.2.2.1.map iT), .sl false 1 (e.2.2.2.2.1.map iT), .sl false 1 (e.2.2.2.2.2.1.map iT), .sl false 1 (e.2.2.2.2.2.2.1.map iT), .sl false 1 (e.2.2.2.2.2.2.2.1.map iT), .b e.2.2.2.2.2.2.2.2.1, .b e.2.2.2.2.2.2.2.2.2])] := by
  refine mk_contract [some [(1, 0)]] Try.func117 (c := Try.f117.body.get!) (by kernel_rfl) k117 r117 (of_decide_eq_true rfl) fun _ => ?_
  unfold c117; simp [lsA, lsB, lsC]
theorem w150 : ContractA Try.prog [true, false] false 150 [.ro, .ro] [.sl false 1 [], .i .i64 8] [.sl true 1 []] [] := contract_grow8 W1508
def cs3 (A B C : List (List Int)) (j : Nat) : Nat := match j with
  | 0 => 0
  | 1 => A.length
  | 2 => A.length + B.length
  | _ => A.length + B.length + C.length
def fl3 (A B C : List (List Int)) (j : Nat) : List (List Int) := match j with
  | 0 => []
  | 1 => A
  | 2 => A ++ B
  | _ => A ++ B ++ C
set_option maxRecDepth 100000 in
theorem w118 (A B C L : List (List Int)) (hL : A ++ B ++ C = L) (h8 : A.length + B.length + C.length = 8) : Contract Try.prog true 118 [.own] [.sl true 1 [[.sl true 1 (A.map rT)], [.sl true 1 (B.map rT)], [.sl true 1 (C.map rT)]]] [.sl true 1 (L.map rT)] [none] := by
  refine mk_contract [none] Try.func118 (c := Try.f118.body.get!) (by kernel_rfl) k118 r118 (of_decide_eq_true rfl) fun _ => ?_
  unfold c118; simp
  have w1 : IntKind.i64.wrap (A.length : Int) = A.length := wrap_id (by omega) (by omega)
  have w2 : IntKind.i64.wrap ((A.length : Int) + B.length) = A.length + B.length := wrap_id (by omega) (by omega)
  have w3 : IntKind.i64.wrap ((A.length : Int) + B.length + C.length) = A.length + B.length + C.length := wrap_id (by omega) (by omega)
  have w4 : (A.length : Int) + B.length + C.length = 8 := by omega
  have v1 : IntKind.i64.wrap 1 = 1 := by decide
  have v2 : IntKind.i64.wrap 2 = 2 := by decide
  have v3 : IntKind.i64.wrap 3 = 3 := by decide
  have v8 : IntKind.i64.wrap 8 = 8 := by decide
  have n1 : ¬ ((A.length : Int) < 0) := by omega
  have n2 : ¬ ((A.length : Int) + B.length < 0) := by omega
  refine twp_for 3 (fun j s => s.t 0 = .rf [(1, 0)] 0 3 ∧ s.t 9 = .rf [(1, 0)] 0 3 ∧ s.t 10 = .i .i64 3 ∧ s.t 11 = .i .i64 j ∧ s.t 3 = .i .i64 (cs3 A B C j) ∧ s.H = lk [(1, [.sl true 1 [[.sl true 1 (A.map rT)], [.sl true 1 (B.map rT)], [.sl true 1 (C.map rT)]]])]) [] (by simp) ?_ ?_
  · simp [cs3]
  · rintro j s hj ⟨q0, q9, q10, q11, q3, qH⟩
    rw [nf_of qH]
    rcases j with _ | _ | _ | _ | j
    · simp [q0, q3, q9, q10, q11, cs3, w1, v1, n1]
    · simp [q0, q3, q9, q10, q11, cs3, w2, v2, n2]
    · simp [q0, q3, q9, q10, q11, cs3, w3, w4, v3, v8]
    · simp [q0, q3, q9, q10, q11, cs3, w4]
      refine callW_ms [.ro, .ro] ?_
      simp
      refine callX_nil w150 (by simp) ?_
      simp [q0, q3, q9, q10, q11]
      refine twp_forR 3 (fun j s => s.t 25 = .rf [(1, 0)] 0 3 ∧ s.t 26 = .i .i64 3 ∧ s.t 27 = .i .i64 j ∧ s.t 6 = .rf [(35, 0)] 0 (fl3 A B C j).length ∧ s.H = lk [(1, [.sl true 1 [[.sl true 1 (A.map rT)], [.sl true 1 (B.map rT)], [.sl true 1 (C.map rT)]]]), (35, [.sl true 1 ((fl3 A B C j).map rT)])]) [] [(26, 35)] (by simp) (by simp) ?_ ?_
      · simp [fl3, q0]
      · rintro j s hj ⟨q25, q26, q27, q6, qH⟩
        rw [nf_of qH]
        rcases j with _ | _ | _ | _ | j
        · simp [q6, q25, q26, q27, fl3, v1]
          omega
        · simp [q6, q25, q26, q27, fl3, v2]
          omega
        · simp [q6, q25, q26, q27, fl3, v3]
          omega
        · simp [q6, q25, q26, q27, fl3, ← hL]
          try simp
        · omega
    · omega
theorem w152 (c : Int) (b : List Int) (hb : b.length ≤ 2^40) : Contract Try.prog false 152 [.ro, .ro] [.i .i64 c, .po false [.sl false 1 (b.map iT)]] [.b (!decide (c ∈ b))] [] := by
  refine mk_contract [] Try.func152 (c := Try.f152.body.get!) (by kernel_rfl) k152 r152 (of_decide_eq_true rfl) fun _ => ?_
  unfold c152; simp
  refine callW_ms [.ro, .ro] ?_
  simp
  refine callX_of (w138 b c hb) (by simp) ?_
  simp
theorem w161 (L b : List Int) (hb : b.length ≤ 2^40) (hL : L.length ≤ 2^40) : Contract Try.prog false 161 [.ro, .ro] [.sl false 1 (L.map iT), .fn 152 [.po false [.sl false 1 (b.map iT)]]] [.i .i64 (idxP (fun c => !decide (c ∈ b)) L)] [] := by
  refine mk_contract [] Try.func161 (c := Try.f161.body.get!) (by kernel_rfl) k161 r161 (of_decide_eq_true rfl) fun _ => ?_
  unfold c161; simp
  refine twp_for L.length (fun j s => s.t 0 = .sl false 1 (L.map iT) ∧ s.t 1 = .fn 152 [.po false [.sl false 1 (b.map iT)]] ∧ s.t 7 = .i .i64 L.length ∧ s.t 8 = .i .i64 j ∧ (∀ y ∈ L.take j, (!decide (y ∈ b)) = false) ∧ s.H = lk [(1, [])]) [] (by simp) ?_ ?_
  · simp
  · rintro j s hj ⟨q0, q1, q7, q8, hn, qH⟩
    rw [nf_of qH]
    simp [q0, q1, q7, q8]
    refine ⟨fun hlt => ?_, fun hge => ?_⟩
    · have hw : IntKind.i64.wrap (j + 1) = j + 1 := wrap_id (by omega) (by omega)
      obtain ⟨y, hy⟩ := get_some hlt
      simp [hy, hw, q0, q1, q7, q8]
      refine ⟨by kernel_rfl, ?_⟩
      have hC := w152 y b hb
      cases hd : (!decide (y ∈ b)) with
      | true =>
        rw [hd] at hC
        refine callW_ms [.ro, .ro] ?_
        simp
        refine callX_of hC (by simp) ?_
        simp [hw, q0, q1, q7, q8]
        exact (idxP_at (p := fun c => !decide (c ∈ b)) hy hd hn).symm
      | false =>
        rw [hd] at hC
        refine callW_ms [.ro, .ro] ?_
        simp
        refine callX_of hC (by simp) ?_
        simp [hw, q0, q1, q7, q8]
        refine ⟨hlt, fun a hab => ?_⟩
        rw [take_snoc hy, List.mem_append, List.mem_singleton] at hab
        rcases hab with hab | rfl
        · simpa using hn _ hab
        · simpa using hd
    · obtain rfl : j = L.length := by omega
      rw [List.take_of_length_le (Nat.le_refl _)] at hn
      exact (idxP_none (p := fun c => !decide (c ∈ b)) hn).symm
theorem w151 (L b : List Int) (hb : b.length ≤ 2^40) (hL : L.length ≤ 2^40) : Contract Try.prog false 151 [.ro, .ro] [.sl false 1 (L.map iT), .fn 152 [.po false [.sl false 1 (b.map iT)]]] [.b (decide (∃ y ∈ L, y ∉ b))] [] := by
  refine mk_contract [] Try.func151 (c := Try.f151.body.get!) (by kernel_rfl) k151 r151 (of_decide_eq_true rfl) fun _ => ?_
  have hE : 0 ≤ idxP (fun c => !decide (c ∈ b)) L ↔ ∃ y ∈ L, y ∉ b := by rw [idxP_ge]; simp
  unfold c151; simp
  refine callW_ms [.ro, .ro] ?_
  simp
  refine callX_of (w161 L b hb hL) (by simp) ?_
  simp [hE]
def allIn (a b : List Int) : Prop := ∀ x ∈ a, x ∈ b
instance (a b : List Int) : Decidable (allIn a b) := by unfold allIn; infer_instance
theorem w119 (a b : List Int) (ha : a.length ≤ 2^40) (hb : b.length ≤ 2^40) : Contract Try.prog false 119 [.ro, .ro] [.sl false 1 (a.map iT), .sl false 1 (b.map iT)] [.b (decide (allIn a b))] [] := by
  refine mk_contract [] Try.func119 (c := Try.f119.body.get!) (by kernel_rfl) k119 r119 (of_decide_eq_true rfl) fun _ => ?_
  unfold c119; simp
  by_cases h : ∃ y ∈ a, y ∉ b
  · have h2 : ¬ allIn a b := fun h2 => by obtain ⟨y, h3, h4⟩ := h; exact h4 (h2 y h3)
    refine callW_ms [.ro, .ro] ?_
    simp
    refine callX_of ((w151 a b hb ha).t h) (by simp) ?_
    simp
    exact h2
  · have h2 : allIn a b := fun x hx => Decidable.byContradiction fun h3 => h ⟨x, hx, h3⟩
    refine callW_ms [.ro, .ro] ?_
    simp
    refine callX_of ((w151 a b hb ha).f h) (by simp) ?_
    simp
    exact h2
theorem allIn_asc (a b : List Int) : allIn (asc a) (asc b) ↔ allIn a b :=
  ⟨fun h x hx => (asc_mem b x).1 (h x ((asc_mem a x).2 hx)), fun h x hx => (asc_mem b x).2 (h x ((asc_mem a x).1 hx))⟩
theorem w116 (a b : List Int) (ha : a.length ≤ 2^40) (hb : b.length ≤ 2^40) : Contract Try.prog false 116 [.ro, .ro] [.sl false 1 (a.map iT), .sl false 1 (b.map iT)] [.b (decide (allIn a b))] [] := by
  refine mk_contract [] Try.func116 (c := Try.f116.body.get!) (by kernel_rfl) k116 r116 (of_decide_eq_true rfl) fun _ => ?_
  unfold c116; simp
  refine callW_ms [.ro] ?_
  simp
  refine callX_of (w149 a ha) (by simp) ?_
  simp
  refine callW_ms [.ro] ?_
  simp
  refine callX_of (w149 b hb) (by simp) ?_
  simp
  have ra := asc_ris a
  have rb := asc_ris b
  have la := asc_len a
  have lb := asc_len b
  rw [show decide (allIn a b) = decide (allIn (asc a) (asc b)) from decide_eq_decide.2 (allIn_asc a b).symm]
  generalize asc a = x at *
  generalize asc b = y at *
  refine twp_for x.length (fun j s => ∃ k : Nat, k ≤ y.length ∧ s.t 5 = .rf [(12, 0)] 0 x.length ∧ s.t 6 = .rf [(14, 0)] 0 y.length ∧ s.t 7 = .i .i64 k ∧ s.t 8 = .i .i64 j ∧ (∀ z ∈ x.take j, z ∈ y) ∧ (∀ z ∈ y.take k, ∀ u ∈ x.drop j, z < u) ∧ s.H = lk [(1, []), (12, [.sl true 1 (x.map iT)]), (14, [.sl true 1 (y.map iT)])]) [] (by simp) ?_ ?_
  · exact ⟨0, by simp⟩
  · rintro j s hj ⟨k, hk, q5, q6, q7, q8, hA, hB, qH⟩
    rw [nf_of qH]
    simp [q5, q6, q7, q8]
    refine ⟨fun hlt => ?_, fun hge => ?_⟩
    · have hw : IntKind.i64.wrap (j + 1) = j + 1 := wrap_id (by omega) (by omega)
      obtain ⟨u, hu⟩ := get_some hlt
      have hud : x.drop j = u :: x.drop (j + 1) := drop_cons hu
      refine twp_post (fun s => ∃ k : Nat, k ≤ y.length ∧ s.t 5 = .rf [(12, 0)] 0 x.length ∧ s.t 6 = .rf [(14, 0)] 0 y.length ∧ s.t 7 = .i .i64 k ∧ s.t 8 = .i .i64 j ∧ (∀ z ∈ y.take k, ∀ u ∈ x.drop j, z < u) ∧ (∀ v, y[k]? = some v → u ≤ v) ∧ s.H = lk [(1, []), (12, [.sl true 1 (x.map iT)]), (14, [.sl true 1 (y.map iT)])]) ?_ ?_
      · refine twp_loop (fun n s => ∃ k : Nat, k ≤ y.length ∧ n = y.length - k ∧ s.t 5 = .rf [(12, 0)] 0 x.length ∧ s.t 6 = .rf [(14, 0)] 0 y.length ∧ s.t 7 = .i .i64 k ∧ s.t 8 = .i .i64 j ∧ (∀ z ∈ y.take k, ∀ u ∈ x.drop j, z < u) ∧ s.H = lk [(1, []), (12, [.sl true 1 (x.map iT)]), (14, [.sl true 1 (y.map iT)])]) [] (by simp) (y.length - k) ?_ ?_
        · exact ⟨k, hk, rfl, by simp [q5, q6, q7, q8], by simp [q5, q6, q7, q8], by simp [q5, q6, q7, q8], by simp [q5, q6, q7, q8], hB, by simp⟩
        · rintro n s2 ⟨k2, hk2, rfl, p5, p6, p7, p8, hB2, pH⟩
          rw [nf_of pH]
          simp [p5, p6, p7, p8]
          have hwk : IntKind.i64.wrap ((k2 : Int) + 1) = k2 + 1 := wrap_id (by omega) (by omega)
          cases hbk : decide (k2 < y.length)
          · have hky : ¬ k2 < y.length := of_decide_eq_false hbk
            simp [p5, p6, p7, p8]
            exact ⟨k2, hk2, rfl, hB2, fun v hv => by rw [List.getElem?_eq_none (by omega)] at hv; cases hv⟩
          · have hky : k2 < y.length := of_decide_eq_true hbk
            obtain ⟨v, hv⟩ := get_some hky
            simp [p5, p6, p7, p8, hu, hv]
            refine ⟨hky, hlt, fun hvu => ?_, fun hvu => ?_⟩
            · refine ⟨y.length - (k2 + 1), by omega, k2 + 1, by omega, rfl, by rw [hwk]; omega, fun z hz u' hu' => ?_⟩
              rw [take_snoc hv, List.mem_append, List.mem_singleton] at hz
              rcases hz with hz | rfl
              · exact hB2 z hz u' hu'
              · have := ris_head ra hu u' hu'
                omega
            · exact ⟨k2, by omega, rfl, hB2, fun v' hv' => by rw [hv] at hv'; cases hv'; exact hvu⟩
      · rintro sz ⟨k3, hk3, z5, z6, z7, z8, hB3, hge3, zH⟩
        rw [nf_of zH]
        cases hbg : decide (y.length ≤ k3)
        · have hky : k3 < y.length := by have := of_decide_eq_false hbg; omega
          obtain ⟨v, hv⟩ := get_some hky
          have huv := hge3 v hv
          simp [z5, z6, z7, z8, hbg, hu, hv]
          refine ⟨hky, hlt, fun hvu => ⟨hlt, k3, hk3, rfl, hw, fun z hz => ?_, fun z hz u' hu' => hB3 z hz u' (by rw [hud]; exact List.mem_cons_of_mem _ hu')⟩, fun hvu h => ?_⟩
          · rw [take_snoc hu, List.mem_append, List.mem_singleton] at hz
            rcases hz with hz | rfl
            · exact hA z hz
            · subst hvu; exact List.mem_of_getElem? hv
          · have h1 := h u (List.mem_of_getElem? hu)
            rw [← List.take_append_drop k3 y, List.mem_append] at h1
            rcases h1 with h1 | h1
            · have := hB3 u h1 u (by rw [hud]; simp)
              omega
            · have := ris_head rb hv u h1
              omega
        · have hky : y.length ≤ k3 := of_decide_eq_true hbg
          rw [List.take_of_length_le hky] at hB3
          have hno : ¬ allIn x y := fun h => by
            have h1 := hB3 u (h u (List.mem_of_getElem? hu)) u (by rw [hud]; simp)
            omega
          simp [z5, z6, z7, z8, hbg, hno]
    · obtain rfl : j = x.length := by omega
      rw [List.take_of_length_le (Nat.le_refl _)] at hA
      exact hA
def effIn (a b : EffP) : Prop := (allIn a.1 b.1 ∧ allIn a.2.1 b.2.1 ∧ allIn a.2.2.1 b.2.2.1 ∧ allIn a.2.2.2.1 b.2.2.2.1 ∧ allIn a.2.2.2.2.1 b.2.2.2.2.1 ∧ allIn a.2.2.2.2.2.1 b.2.2.2.2.2.1 ∧ allIn a.2.2.2.2.2.2.1 b.2.2.2.2.2.2.1 ∧ allIn a.2.2.2.2.2.2.2.1 b.2.2.2.2.2.2.2.1) ∧ (a.2.2.2.2.2.2.2.2.1 = true → b.2.2.2.2.2.2.2.2.1 = true) ∧ (a.2.2.2.2.2.2.2.2.2 = true → b.2.2.2.2.2.2.2.2.2 = true)
instance (a b : EffP) : Decidable (effIn a b) := by unfold effIn; infer_instance
set_option maxRecDepth 100000 in
theorem w61 (a b : EffP) (ha : effB (2^40) a) (hb : effB (2^40) b) : Contract Try.prog false 61 [.ro, .ro] [effR a, effR b] [.b (decide (effIn a b))] [] := by
  refine mk_contract [] Try.func61 (c := Try.f61.body.get!) (by kernel_rfl) k61 r61 (of_decide_eq_true rfl) fun _ => ?_
  obtain ⟨a1, a2, a3, a4, a5, a6, a7, a8⟩ := ha
  obtain ⟨b1, b2, b3, b4, b5, b6, b7, b8⟩ := hb
  unfold c61; unfold effR; simp
  by_cases h0 : allIn a.1 b.1
  rotate_left
  · refine callW_ms [.ro, .ro] ?_
    simp
    refine callX_of ((w116 a.1 b.1 a1 b1).f h0) (by simp) ?_
    simp
    simp [effIn, h0]
  refine callW_ms [.ro, .ro] ?_
  simp
  refine callX_of ((w116 a.1 b.1 a1 b1).t h0) (by simp) ?_
  simp
  by_cases h1 : allIn a.2.1 b.2.1
  rotate_left
  · refine callW_ms [.ro, .ro] ?_
    simp
    refine callX_of ((w116 a.2.1 b.2.1 a2 b2).f h1) (by simp) ?_
    simp
    simp [effIn, h1]
  refine callW_ms [.ro, .ro] ?_
  simp
  refine callX_of ((w116 a.2.1 b.2.1 a2 b2).t h1) (by simp) ?_
  simp
  by_cases h2 : allIn a.2.2.1 b.2.2.1
  rotate_left
  · refine callW_ms [.ro, .ro] ?_
    simp
    refine callX_of ((w116 a.2.2.1 b.2.2.1 a3 b3).f h2) (by simp) ?_
    simp
    simp [effIn, h2]
  refine callW_ms [.ro, .ro] ?_
  simp
  refine callX_of ((w116 a.2.2.1 b.2.2.1 a3 b3).t h2) (by simp) ?_
  simp
  by_cases h3 : allIn a.2.2.2.1 b.2.2.2.1
  rotate_left
  · refine callW_ms [.ro, .ro] ?_
    simp
    refine callX_of ((w116 a.2.2.2.1 b.2.2.2.1 a4 b4).f h3) (by simp) ?_
    simp
    simp [effIn, h3]
  refine callW_ms [.ro, .ro] ?_
  simp
  refine callX_of ((w116 a.2.2.2.1 b.2.2.2.1 a4 b4).t h3) (by simp) ?_
  simp
  by_cases h4 : allIn a.2.2.2.2.1 b.2.2.2.2.1
  rotate_left
  · refine callW_ms [.ro, .ro] ?_
    simp
    refine callX_of ((w116 a.2.2.2.2.1 b.2.2.2.2.1 a5 b5).f h4) (by simp) ?_
    simp
    simp [effIn, h4]
  refine callW_ms [.ro, .ro] ?_
  simp
  refine callX_of ((w116 a.2.2.2.2.1 b.2.2.2.2.1 a5 b5).t h4) (by simp) ?_
  simp
  by_cases h5 : allIn a.2.2.2.2.2.1 b.2.2.2.2.2.1
  rotate_left
  · refine callW_ms [.ro, .ro] ?_
    simp
    refine callX_of ((w116 a.2.2.2.2.2.1 b.2.2.2.2.2.1 a6 b6).f h5) (by simp) ?_
    simp
    simp [effIn, h5]
  refine callW_ms [.ro, .ro] ?_
  simp
  refine callX_of ((w116 a.2.2.2.2.2.1 b.2.2.2.2.2.1 a6 b6).t h5) (by simp) ?_
  simp
  by_cases h6 : allIn a.2.2.2.2.2.2.1 b.2.2.2.2.2.2.1
  rotate_left
  · refine callW_ms [.ro, .ro] ?_
    simp
    refine callX_of ((w116 a.2.2.2.2.2.2.1 b.2.2.2.2.2.2.1 a7 b7).f h6) (by simp) ?_
    simp
    simp [effIn, h6]
  refine callW_ms [.ro, .ro] ?_
  simp
  refine callX_of ((w116 a.2.2.2.2.2.2.1 b.2.2.2.2.2.2.1 a7 b7).t h6) (by simp) ?_
  simp
  by_cases h7 : allIn a.2.2.2.2.2.2.2.1 b.2.2.2.2.2.2.2.1
  rotate_left
  · refine callW_ms [.ro, .ro] ?_
    simp
    refine callX_of ((w116 a.2.2.2.2.2.2.2.1 b.2.2.2.2.2.2.2.1 a8 b8).f h7) (by simp) ?_
    simp
    simp [effIn, h7]
  refine callW_ms [.ro, .ro] ?_
  simp
  refine callX_of ((w116 a.2.2.2.2.2.2.2.1 b.2.2.2.2.2.2.2.1 a8 b8).t h7) (by simp) ?_
  simp
  simp only [effIn, h0, h1, h2, h3, h4, h5, h6, h7]
  cases g1 : a.2.2.2.2.2.2.2.2.1 <;> cases g2 : b.2.2.2.2.2.2.2.2.1 <;> cases g3 : a.2.2.2.2.2.2.2.2.2 <;> cases g4 : b.2.2.2.2.2.2.2.2.2 <;> simp [g1, g2, g3, g4]

theorem effLo_eq (e : EffP) : lsA e ++ lsB e ++ lsC e = effLo e := rfl
def inUp (a b : List (List Int)) (j : Nat) : Prop := ∀ (i : Nat) (x y : List Int), i < j → a[i]? = some x → b[i]? = some y → allIn x y
theorem effLo_in (a b : EffP) : inUp (effLo a) (effLo b) 8 ↔ (allIn a.1 b.1 ∧ allIn a.2.1 b.2.1 ∧ allIn a.2.2.1 b.2.2.1 ∧ allIn a.2.2.2.1 b.2.2.2.1 ∧ allIn a.2.2.2.2.1 b.2.2.2.2.1 ∧ allIn a.2.2.2.2.2.1 b.2.2.2.2.2.1 ∧ allIn a.2.2.2.2.2.2.1 b.2.2.2.2.2.2.1 ∧ allIn a.2.2.2.2.2.2.2.1 b.2.2.2.2.2.2.2.1) := by
  constructor
  · intro h
    exact ⟨h 0 _ _ (by omega) rfl rfl, h 1 _ _ (by omega) rfl rfl, h 2 _ _ (by omega) rfl rfl, h 4 _ _ (by omega) rfl rfl, h 5 _ _ (by omega) rfl rfl, h 6 _ _ (by omega) rfl rfl, h 7 _ _ (by omega) rfl rfl, h 3 _ _ (by omega) rfl rfl⟩
  · rintro ⟨h1, h2, h3, h4, h5, h6, h7, h8⟩ i x y hi hx hy
    match i, hi with
    | 0, _ => cases hx; cases hy; exact h1
    | 1, _ => cases hx; cases hy; exact h2
    | 2, _ => cases hx; cases hy; exact h3
    | 3, _ => cases hx; cases hy; exact h8
    | 4, _ => cases hx; cases hy; exact h4
    | 5, _ => cases hx; cases hy; exact h5
    | 6, _ => cases hx; cases hy; exact h6
    | 7, _ => cases hx; cases hy; exact h7
theorem effLo_len (e : EffP) : (effLo e).length = 8 := rfl
theorem effLo_B {e : EffP} {k : Nat} (h : effB k e) : ∀ (i : Nat) (x : List Int), (effLo e)[i]? = some x → x.length ≤ k := by
  obtain ⟨h1, h2, h3, h4, h5, h6, h7, h8⟩ := h
  intro i x hx
  match i, hx with
  | 0, hx => cases hx; exact h1
  | 1, hx => cases hx; exact h2
  | 2, hx => cases hx; exact h3
  | 3, hx => cases hx; exact h8
  | 4, hx => cases hx; exact h4
  | 5, hx => cases hx; exact h5
  | 6, hx => cases hx; exact h6
  | 7, hx => cases hx; exact h7
set_option maxRecDepth 100000 in
theorem w63 (a b : EffP) (ha : effB (2^40) a) (hb : effB (2^40) b) : Contract Try.prog false 63 [.ro, .ro] [effR a, effR b] [.b (decide (effIn a b))] [] := by
  refine mk_contract [] Try.func63 (c := Try.f63.body.get!) (by kernel_rfl) k63 r63 (of_decide_eq_true rfl) fun _ => ?_
  unfold c63; unfold effR; simp
  refine callW_ms [.own] ?_
  simp
  refine callX_of (w117 a) (by simp) ?_
  simp
  refine callW_ms [.own] ?_
  simp
  refine callX_of (w117 b) (by simp) ?_
  simp
  refine callW_ms [.own] ?_
  simp
  refine callX_of (w118 (lsA a) (lsB a) (lsC a) (effLo a) rfl rfl) (by simp) ?_
  simp
  refine callW_ms [.own] ?_
  simp
  refine callX_of (w118 (lsA b) (lsB b) (lsC b) (effLo b) rfl rfl) (by simp) ?_
  simp
  have hin := effLo_in a b
  have hba := effLo_B ha
  have hbb := effLo_B hb
  have hla := effLo_len a
  have hlb := effLo_len b
  generalize effLo a = La at *
  generalize effLo b = Lb at *
  refine twp_for 8 (fun j s => s.t 2 = .pt [(4, 0)] 0 0 ∧ s.t 3 = .pt [(5, 0)] 0 0 ∧ s.t 12 = .rf [(36, 0)] 0 8 ∧ s.t 35 = .rf [(31, 0)] 0 8 ∧ s.t 36 = .i .i64 8 ∧ s.t 37 = .i .i64 j ∧ inUp La Lb j ∧ s.H = lk [(1, []), (4, [.po true [.sl false 1 (a.1.map iT), .sl false 1 (a.2.1.map iT), .sl false 1 (a.2.2.1.map iT), .sl false 1 (a.2.2.2.1.map iT), .sl false 1 (a.2.2.2.2.1.map iT), .sl false 1 (a.2.2.2.2.2.1.map iT), .sl false 1 (a.2.2.2.2.2.2.1.map iT), .sl false 1 (a.2.2.2.2.2.2.2.1.map iT), .b a.2.2.2.2.2.2.2.2.1, .b a.2.2.2.2.2.2.2.2.2]]), (5, [.po true [.sl false 1 (b.1.map iT), .sl false 1 (b.2.1.map iT), .sl false 1 (b.2.2.1.map iT), .sl false 1 (b.2.2.2.1.map iT), .sl false 1 (b.2.2.2.2.1.map iT), .sl false 1 (b.2.2.2.2.2.1.map iT), .sl false 1 (b.2.2.2.2.2.2.1.map iT), .sl false 1 (b.2.2.2.2.2.2.2.1.map iT), .b b.2.2.2.2.2.2.2.2.1, .b b.2.2.2.2.2.2.2.2.2]]), (31, [.sl true 1 (La.map rT)]), (36, [.sl true 1 (Lb.map rT)])]) [18, 23, 30, 35] (by simp) ?_ ?_
  · simp [hla, hlb, inUp]
  · rintro j s hj ⟨q2, q3, q12, q35, q36, q37, hi, qH⟩
    rw [nf_of qH]
    simp [q2, q3, q12, q35, q36, q37, hla, hlb]
    refine ⟨fun hlt => ?_, fun hge => ?_⟩
    · have hw : IntKind.i64.wrap (j + 1) = j + 1 := wrap_id (by omega) (by omega)
      have hlt2 : j < 8 := by omega
      obtain ⟨x, hx⟩ := get_some (show j < La.length by omega)
      obtain ⟨y, hy⟩ := get_some (show j < Lb.length by omega)
      refine ⟨hlt, ?_⟩
      simp [hx, hy, hla, hlb, q2, q3, q12, q35, q36, q37]
      try refine ⟨hlt, ?_⟩
      have hup : inUp La Lb (j + 1) ↔ inUp La Lb j ∧ allIn x y := by
        constructor
        · intro h
          exact ⟨fun i x' y' hi2 => h i x' y' (by omega), h j x y (by omega) hx hy⟩
        · rintro ⟨h1, h2⟩ i x' y' hi2 hx' hy'
          by_cases hij : i = j
          · subst hij; rw [hx] at hx'; rw [hy] at hy'; cases hx'; cases hy'; exact h2
          · exact h1 i x' y' (by omega) hx' hy'
      by_cases hxy : allIn x y
      · refine callW_ms [.ro, .ro] ?_
        simp
        refine callX_of ((w119 x y (hba j x hx) (hbb j y hy)).t hxy) (by simp) ?_
        simp [hw, hla, hlb, q2, q3, q12, q35, q36, q37]
        exact ⟨by omega, hup.2 ⟨hi, hxy⟩⟩
      · refine callW_ms [.ro, .ro] ?_
        simp
        refine callX_of ((w119 x y (hba j x hx) (hbb j y hy)).f hxy) (by simp) ?_
        simp [hw, q2, q3, q12, q35, q36, q37]
        intro h
        have h8 := hin.2 h.1
        exact hxy (h8 j x y hlt2 hx hy)
    · obtain rfl : j = 8 := by omega
      have hE := hin.1 hi
      simp [q2, q3, q12, q35, q36, q37]
      simp only [effIn, hE, true_and]
      cases g1 : a.2.2.2.2.2.2.2.2.1 <;> cases g2 : b.2.2.2.2.2.2.2.2.1 <;> cases g3 : a.2.2.2.2.2.2.2.2.2 <;> cases g4 : b.2.2.2.2.2.2.2.2.2 <;> simp [g1, g2, g3, g4, q2, q3, q12, q35, q36, q37]
set_option maxRecDepth 100000 in
theorem w13 (a b : EffP) (ha : effB 9223372036854775807 a) (hb : effB 9223372036854775807 b) : Contract Try.prog false 13 [.ro, .ro] [effR a, effR b] [.b true] [] := by
  refine mk_contract [] Try.func13 (c := Try.f13.body.get!) (by kernel_rfl) k13 r13 (of_decide_eq_true rfl) fun _ => ?_
  unfold c13; unfold effR; simp
  refine callW_ms [.ro, .ro] ?_
  simp [effR]
  refine callX_of (w60 a _ ha (by omega) (by omega)) (by simp) ?_
  simp
  intro h
  obtain ⟨h0, h1, hk⟩ := szEff_ok (k := 2^20) (by omega) (by omega) (by omega : ¬ szEffF a 1048576 < 0)
  have ha2 : effB (2^40) a := by unfold effB at hk ⊢; omega
  generalize szEffF a 1048576 = m at *
  refine callW_ms [.ro, .ro] ?_
  simp [effR]
  refine callX_of (w60 b m hb (by omega) (by omega)) (by simp) ?_
  simp
  intro h2
  obtain ⟨-, -, hk2⟩ := szEff_ok (k := 2^20) (by omega) (by omega) (by omega : ¬ szEffF b m < 0)
  have hb2 : effB (2^40) b := by unfold effB at hk2 ⊢; omega
  refine callW_ms [.ro] ?_
  simp [effR]
  refine callX_of (w62 a ha2) (by simp) ?_
  simp [effO]
  refine callW_ms [.ro] ?_
  simp [effR]
  refine callX_of (w62 b hb2) (by simp) ?_
  simp [effO]
  refine callW_ms [.ro, .ro] ?_
  simp [effR]
  refine callX_of (w61 a b ha2 hb2) (by simp) ?_
  simp
  refine callW_ms [.ro] ?_
  simp [effR]
  refine callX_of (w62 a ha2) (by simp) ?_
  simp [effO]
  refine callW_ms [.ro] ?_
  simp [effR]
  refine callX_of (w62 b hb2) (by simp) ?_
  simp [effO]
  refine callW_ms [.ro, .ro] ?_
  simp [effR]
  refine callX_of (w63 a b ha2 hb2) (by simp) ?_
  simp
  refine callW_ms [.ro] ?_
  simp [effR]
  refine callX_of (w62 a ha2) (by simp) ?_
  simp [effO]
  refine callW_ms [.ro, .ro] ?_
  simp [effR]
  refine callX_of (w64 a ha2) (by simp) ?_
  simp
  refine callW_ms [.ro] ?_
  simp [effR]
  refine callX_of (w62 b hb2) (by simp) ?_
  simp [effO]
  refine callW_ms [.ro, .ro] ?_
  simp [effR]
  refine callX_of (w64 b hb2) (by simp) ?_
  simp
end Go.Proofs.YtloodkhdngipbaaT
