/- Joins of effects. -/
import Derived.Test.YtmedelmfkciblaaKs2
import Derived.Test.YtmedelmfkciblaaKe
namespace Go.Proofs.YtmedelmfkciblaaT
set_option linter.unusedVariables false
set_option linter.unusedSimpArgs false
open Go

/- spec.l10Union -/
def c69 : TCode := (.seq (.ops [⟨(some 4), 6, .mv (.c (.sl true 1 [])), none, []⟩])
  (.seq (.ops [⟨(some 5), 7, .bslice 1 0 [(.i .i64 0)] [], none, []⟩, ⟨(some 6), 8, .mv (.t 0), none, []⟩, ⟨(some 7), 9, .app 1 8 (.t 5) (.t 6), none, []⟩, ⟨(some 8), 10, .mv (.t 1), none, []⟩, ⟨(some 9), 11, .app 1 8 (.t 7) (.t 8), none, []⟩, ⟨(some 10), 12, .call 77 [((.t 9), 0)], none, []⟩, ⟨(some 4), 6, .mv (.t 10), none, []⟩])
  .ret))
theorem k69 : compCode Try.prog Try.f69.ntmps Try.f69.body.get! = some c69 := by kernel_rfl
theorem r69 : resTmps Try.prog Try.f69.results.toList = some [.tmp 4] := by kernel_rfl
/- impl.both -/
def c70 : TCode := (.seq (.ops [⟨(some 4), 6, .mv (.c (.sl true 1 [])), none, []⟩])
  (.seq (.ops [⟨(some 5), 7, .mv (.t 0), none, []⟩, ⟨(some 6), 8, .call 130 [((.t 5), 0)], none, []⟩, ⟨(some 7), 9, .mv (.t 1), none, []⟩, ⟨(some 8), 10, .app 1 8 (.t 6) (.t 7), none, []⟩, ⟨(some 9), 11, .call 78 [((.t 8), 0)], none, []⟩, ⟨(some 4), 6, .mv (.t 9), none, []⟩])
  .ret))
theorem k70 : compCode Try.prog Try.f70.ntmps Try.f70.body.get! = some c70 := by kernel_rfl
theorem r70 : resTmps Try.prog Try.f70.results.toList = some [.tmp 4] := by kernel_rfl
/- spec.EffJoin -/
def c14 : TCode := (.seq (.ops [⟨(some 2), 4, .box 10 (.t 0), none, []⟩, ⟨(some 3), 5, .box 10 (.t 1), none, []⟩, ⟨(some 4), 6, .box 10 (.c (.ag [(.sl true 1 []), (.sl true 1 []), (.sl true 1 []), (.sl true 1 []), (.sl true 1 []), (.sl true 1 []), (.sl true 1 []), (.sl true 1 []), (.b false), (.b false)])), none, []⟩])
  (.seq (.draw [⟨(some 5), 7, .faddr 0 1 (.t 2), none, []⟩, ⟨(some 6), 8, .load false 1 (.t 5), none, []⟩, ⟨(some 7), 9, .faddr 0 1 (.t 3), none, []⟩, ⟨(some 8), 10, .load false 1 (.t 7), none, []⟩, ⟨(some 9), 11, .call 69 [((.t 6), 0), ((.t 8), 0)], none, []⟩, ⟨(some 10), 12, .faddr 1 1 (.t 2), none, [4]⟩, ⟨(some 11), 13, .load false 1 (.t 10), none, [4]⟩, ⟨(some 12), 14, .faddr 1 1 (.t 3), none, [4]⟩, ⟨(some 13), 15, .load false 1 (.t 12), none, [4]⟩, ⟨(some 14), 16, .call 69 [((.t 11), 0), ((.t 13), 0)], none, []⟩, ⟨(some 15), 17, .faddr 2 1 (.t 2), none, [4, 9]⟩, ⟨(some 16), 18, .load false 1 (.t 15), none, [4, 9]⟩, ⟨(some 17), 19, .faddr 2 1 (.t 3), none, [4, 9]⟩, ⟨(some 18), 20, .load false 1 (.t 17), none, [4, 9]⟩, ⟨(some 19), 21, .call 69 [((.t 16), 0), ((.t 18), 0)], none, []⟩, ⟨(some 20), 22, .faddr 3 1 (.t 2), none, [4, 9, 14]⟩, ⟨(some 21), 23, .load false 1 (.t 20), none, [4, 9, 14]⟩, ⟨(some 22), 24, .faddr 3 1 (.t 3), none, [4, 9, 14]⟩, ⟨(some 23), 25, .load false 1 (.t 22), none, [4, 9, 14]⟩, ⟨(some 24), 26, .call 69 [((.t 21), 0), ((.t 23), 0)], none, []⟩, ⟨(some 25), 27, .faddr 4 1 (.t 2), none, [4, 9, 14, 19]⟩, ⟨(some 26), 28, .load false 1 (.t 25), none, [4, 9, 14, 19]⟩, ⟨(some 27), 29, .faddr 4 1 (.t 3), none, [4, 9, 14, 19]⟩, ⟨(some 28), 30, .load false 1 (.t 27), none, [4, 9, 14, 19]⟩, ⟨(some 29), 31, .call 69 [((.t 26), 0), ((.t 28), 0)], none, []⟩, ⟨(some 30), 32, .faddr 5 1 (.t 2), none, [4, 9, 14, 19, 24]⟩, ⟨(some 31), 33, .load false 1 (.t 30), none, [4, 9, 14, 19, 24]⟩, ⟨(some 32), 34, .faddr 5 1 (.t 3), none, [4, 9, 14, 19, 24]⟩, ⟨(some 33), 35, .load false 1 (.t 32), none, [4, 9, 14, 19, 24]⟩, ⟨(some 34), 36, .call 69 [((.t 31), 0), ((.t 33), 0)], none, []⟩, ⟨(some 35), 37, .faddr 6 1 (.t 2), none, [4, 9, 14, 19, 24, 29]⟩, ⟨(some 36), 38, .load false 1 (.t 35), none, [4, 9, 14, 19, 24, 29]⟩, ⟨(some 37), 39, .faddr 6 1 (.t 3), none, [4, 9, 14, 19, 24, 29]⟩, ⟨(some 38), 40, .load false 1 (.t 37), none, [4, 9, 14, 19, 24, 29]⟩, ⟨(some 39), 41, .call 69 [((.t 36), 0), ((.t 38), 0)], none, []⟩, ⟨(some 40), 42, .faddr 7 1 (.t 2), none, [4, 9, 14, 19, 24, 29, 34]⟩, ⟨(some 41), 43, .load false 1 (.t 40), none, [4, 9, 14, 19, 24, 29, 34]⟩, ⟨(some 42), 44, .faddr 7 1 (.t 3), none, [4, 9, 14, 19, 24, 29, 34]⟩, ⟨(some 43), 45, .load false 1 (.t 42), none, [4, 9, 14, 19, 24, 29, 34]⟩, ⟨(some 44), 46, .call 69 [((.t 41), 0), ((.t 43), 0)], none, []⟩, ⟨(some 45), 47, .faddr 8 1 (.t 2), none, [4, 9, 14, 19, 24, 29, 34, 39]⟩, ⟨(some 46), 48, .load false 1 (.t 45), none, [4, 9, 14, 19, 24, 29, 34, 39]⟩, ⟨(some 47), 49, .mv (.t 46), none, []⟩, ⟨(some 48), 50, .faddr 8 1 (.t 3), (some (47, false)), []⟩, ⟨(some 49), 51, .load false 1 (.t 48), (some (47, false)), []⟩, ⟨(some 50), 52, .pick (.t 47) (.c (.b true)) (.t 49), none, []⟩, ⟨(some 51), 53, .faddr 9 1 (.t 2), none, [4, 9, 14, 19, 24, 29, 34, 39]⟩, ⟨(some 52), 54, .load false 1 (.t 51), none, [4, 9, 14, 19, 24, 29, 34, 39]⟩, ⟨(some 53), 55, .mv (.t 52), none, []⟩, ⟨(some 54), 56, .faddr 9 1 (.t 3), (some (53, false)), []⟩, ⟨(some 55), 57, .load false 1 (.t 54), (some (53, false)), []⟩, ⟨(some 56), 58, .pick (.t 53) (.c (.b true)) (.t 55), none, []⟩, ⟨(some 57), 59, .build [(.sl true 1 []), (.sl true 1 []), (.sl true 1 []), (.sl true 1 []), (.sl true 1 []), (.sl true 1 []), (.sl true 1 []), (.sl true 1 []), (.b false), (.b false)] [(0, 1, (.t 9)), (1, 1, (.t 14)), (2, 1, (.t 19)), (3, 1, (.t 24)), (4, 1, (.t 29)), (5, 1, (.t 34)), (6, 1, (.t 39)), (7, 1, (.t 44)), (8, 1, (.t 50)), (9, 1, (.t 56))], none, []⟩, ⟨none, 1001053, .store 10 (.t 4) (.t 57), none, []⟩])
  .ret))
theorem k14 : compCode Try.prog Try.f14.ntmps Try.f14.body.get! = some c14 := by kernel_rfl
theorem r14 : resTmps Try.prog Try.f14.results.toList = some [.cell 4 true 10] := by kernel_rfl
/- impl.EffJoin -/
def c16 : TCode := (.seq (.ops [⟨(some 2), 4, .box 10 (.t 0), none, []⟩, ⟨(some 3), 5, .box 10 (.t 1), none, []⟩, ⟨(some 4), 6, .box 10 (.c (.ag [(.sl true 1 []), (.sl true 1 []), (.sl true 1 []), (.sl true 1 []), (.sl true 1 []), (.sl true 1 []), (.sl true 1 []), (.sl true 1 []), (.b false), (.b false)])), none, []⟩])
  (.seq (.draw [⟨(some 5), 7, .faddr 0 1 (.t 2), none, []⟩, ⟨(some 6), 8, .load false 1 (.t 5), none, []⟩, ⟨(some 7), 9, .faddr 0 1 (.t 3), none, []⟩, ⟨(some 8), 10, .load false 1 (.t 7), none, []⟩, ⟨(some 9), 11, .call 70 [((.t 6), 0), ((.t 8), 0)], none, []⟩, ⟨(some 10), 12, .faddr 1 1 (.t 2), none, [4]⟩, ⟨(some 11), 13, .load false 1 (.t 10), none, [4]⟩, ⟨(some 12), 14, .faddr 1 1 (.t 3), none, [4]⟩, ⟨(some 13), 15, .load false 1 (.t 12), none, [4]⟩, ⟨(some 14), 16, .call 70 [((.t 11), 0), ((.t 13), 0)], none, []⟩, ⟨(some 15), 17, .faddr 2 1 (.t 2), none, [4, 9]⟩, ⟨(some 16), 18, .load false 1 (.t 15), none, [4, 9]⟩, ⟨(some 17), 19, .faddr 2 1 (.t 3), none, [4, 9]⟩, ⟨(some 18), 20, .load false 1 (.t 17), none, [4, 9]⟩, ⟨(some 19), 21, .call 70 [((.t 16), 0), ((.t 18), 0)], none, []⟩, ⟨(some 20), 22, .faddr 3 1 (.t 2), none, [4, 9, 14]⟩, ⟨(some 21), 23, .load false 1 (.t 20), none, [4, 9, 14]⟩, ⟨(some 22), 24, .faddr 3 1 (.t 3), none, [4, 9, 14]⟩, ⟨(some 23), 25, .load false 1 (.t 22), none, [4, 9, 14]⟩, ⟨(some 24), 26, .call 70 [((.t 21), 0), ((.t 23), 0)], none, []⟩, ⟨(some 25), 27, .faddr 4 1 (.t 2), none, [4, 9, 14, 19]⟩, ⟨(some 26), 28, .load false 1 (.t 25), none, [4, 9, 14, 19]⟩, ⟨(some 27), 29, .faddr 4 1 (.t 3), none, [4, 9, 14, 19]⟩, ⟨(some 28), 30, .load false 1 (.t 27), none, [4, 9, 14, 19]⟩, ⟨(some 29), 31, .call 70 [((.t 26), 0), ((.t 28), 0)], none, []⟩, ⟨(some 30), 32, .faddr 5 1 (.t 2), none, [4, 9, 14, 19, 24]⟩, ⟨(some 31), 33, .load false 1 (.t 30), none, [4, 9, 14, 19, 24]⟩, ⟨(some 32), 34, .faddr 5 1 (.t 3), none, [4, 9, 14, 19, 24]⟩, ⟨(some 33), 35, .load false 1 (.t 32), none, [4, 9, 14, 19, 24]⟩, ⟨(some 34), 36, .call 70 [((.t 31), 0), ((.t 33), 0)], none, []⟩, ⟨(some 35), 37, .faddr 6 1 (.t 2), none, [4, 9, 14, 19, 24, 29]⟩, ⟨(some 36), 38, .load false 1 (.t 35), none, [4, 9, 14, 19, 24, 29]⟩, ⟨(some 37), 39, .faddr 6 1 (.t 3), none, [4, 9, 14, 19, 24, 29]⟩, ⟨(some 38), 40, .load false 1 (.t 37), none, [4, 9, 14, 19, 24, 29]⟩, ⟨(some 39), 41, .call 70 [((.t 36), 0), ((.t 38), 0)], none, []⟩, ⟨(some 40), 42, .faddr 7 1 (.t 2), none, [4, 9, 14, 19, 24, 29, 34]⟩, ⟨(some 41), 43, .load false 1 (.t 40), none, [4, 9, 14, 19, 24, 29, 34]⟩, ⟨(some 42), 44, .faddr 7 1 (.t 3), none, [4, 9, 14, 19, 24, 29, 34]⟩, ⟨(some 43), 45, .load false 1 (.t 42), none, [4, 9, 14, 19, 24, 29, 34]⟩, ⟨(some 44), 46, .call 70 [((.t 41), 0), ((.t 43), 0)], none, []⟩, ⟨(some 45), 47, .faddr 8 1 (.t 2), none, [4, 9, 14, 19, 24, 29, 34, 39]⟩, ⟨(some 46), 48, .load false 1 (.t 45), none, [4, 9, 14, 19, 24, 29, 34, 39]⟩, ⟨(some 47), 49, .mv (.t 46), none, []⟩, ⟨(some 48), 50, .faddr 8 1 (.t 3), (some (47, false)), []⟩, ⟨(some 49), 51, .load false 1 (.t 48), (some (47, false)), []⟩, ⟨(some 50), 52, .pick (.t 47) (.c (.b true)) (.t 49), none, []⟩, ⟨(some 51), 53, .faddr 9 1 (.t 2), none, [4, 9, 14, 19, 24, 29, 34, 39]⟩, ⟨(some 52), 54, .load false 1 (.t 51), none, [4, 9, 14, 19, 24, 29, 34, 39]⟩, ⟨(some 53), 55, .mv (.t 52), none, []⟩, ⟨(some 54), 56, .faddr 9 1 (.t 3), (some (53, false)), []⟩, ⟨(some 55), 57, .load false 1 (.t 54), (some (53, false)), []⟩, ⟨(some 56), 58, .pick (.t 53) (.c (.b true)) (.t 55), none, []⟩, ⟨(some 57), 59, .build [(.sl true 1 []), (.sl true 1 []), (.sl true 1 []), (.sl true 1 []), (.sl true 1 []), (.sl true 1 []), (.sl true 1 []), (.sl true 1 []), (.b false), (.b false)] [(0, 1, (.t 9)), (1, 1, (.t 14)), (2, 1, (.t 19)), (3, 1, (.t 24)), (4, 1, (.t 29)), (5, 1, (.t 34)), (6, 1, (.t 39)), (7, 1, (.t 44)), (8, 1, (.t 50)), (9, 1, (.t 56))], none, []⟩, ⟨none, 1001053, .store 10 (.t 4) (.t 57), none, []⟩])
  .ret))
theorem k16 : compCode Try.prog Try.f16.ntmps Try.f16.body.get! = some c16 := by kernel_rfl
theorem r16 : resTmps Try.prog Try.f16.results.toList = some [.cell 4 true 10] := by kernel_rfl
/- laws.markEffect -/
def c18 : TCode := (.seq (.ops [⟨(some 2), 4, .box 10 (.t 0), none, []⟩, ⟨(some 4), 6, .mv (.c (.i .i64 0)), none, []⟩])
  (.seq (.ops [⟨(some 5), 7, .faddr 0 1 (.t 2), none, []⟩, ⟨(some 6), 8, .load false 1 (.t 5), none, []⟩, ⟨(some 7), 9, .mv (.t 1), none, []⟩, ⟨(some 8), 10, .call 34 [((.t 6), 0), ((.t 7), 0)], none, []⟩, ⟨(some 1), 3, .mv (.t 8), none, []⟩])
  (.seq (.ops [⟨(some 9), 11, .faddr 1 1 (.t 2), none, []⟩, ⟨(some 10), 12, .load false 1 (.t 9), none, []⟩, ⟨(some 11), 13, .mv (.t 1), none, []⟩, ⟨(some 12), 14, .call 34 [((.t 10), 0), ((.t 11), 0)], none, []⟩, ⟨(some 1), 3, .mv (.t 12), none, []⟩])
  (.seq (.ops [⟨(some 13), 15, .faddr 2 1 (.t 2), none, []⟩, ⟨(some 14), 16, .load false 1 (.t 13), none, []⟩, ⟨(some 15), 17, .mv (.t 1), none, []⟩, ⟨(some 16), 18, .call 34 [((.t 14), 0), ((.t 15), 0)], none, []⟩, ⟨(some 1), 3, .mv (.t 16), none, []⟩])
  (.seq (.ops [⟨(some 17), 19, .faddr 3 1 (.t 2), none, []⟩, ⟨(some 18), 20, .load false 1 (.t 17), none, []⟩, ⟨(some 19), 21, .mv (.t 1), none, []⟩, ⟨(some 20), 22, .call 34 [((.t 18), 0), ((.t 19), 0)], none, []⟩, ⟨(some 1), 3, .mv (.t 20), none, []⟩])
  (.seq (.ops [⟨(some 21), 23, .faddr 4 1 (.t 2), none, []⟩, ⟨(some 22), 24, .load false 1 (.t 21), none, []⟩, ⟨(some 23), 25, .mv (.t 1), none, []⟩, ⟨(some 24), 26, .call 34 [((.t 22), 0), ((.t 23), 0)], none, []⟩, ⟨(some 1), 3, .mv (.t 24), none, []⟩])
  (.seq (.ops [⟨(some 25), 27, .faddr 5 1 (.t 2), none, []⟩, ⟨(some 26), 28, .load false 1 (.t 25), none, []⟩, ⟨(some 27), 29, .mv (.t 1), none, []⟩, ⟨(some 28), 30, .call 34 [((.t 26), 0), ((.t 27), 0)], none, []⟩, ⟨(some 1), 3, .mv (.t 28), none, []⟩])
  (.seq (.ops [⟨(some 29), 31, .faddr 6 1 (.t 2), none, []⟩, ⟨(some 30), 32, .load false 1 (.t 29), none, []⟩, ⟨(some 31), 33, .mv (.t 1), none, []⟩, ⟨(some 32), 34, .call 34 [((.t 30), 0), ((.t 31), 0)], none, []⟩, ⟨(some 1), 3, .mv (.t 32), none, []⟩])
  (.seq (.ops [⟨(some 33), 35, .faddr 7 1 (.t 2), none, []⟩, ⟨(some 34), 36, .load false 1 (.t 33), none, []⟩, ⟨(some 35), 37, .mv (.t 1), none, []⟩, ⟨(some 36), 38, .call 34 [((.t 34), 0), ((.t 35), 0)], none, []⟩, ⟨(some 1), 3, .mv (.t 36), none, []⟩])
  (.seq (.ops [⟨(some 37), 39, .mv (.t 1), none, []⟩, ⟨(some 4), 6, .mv (.t 37), none, []⟩])
  .ret))))))))))
theorem k18 : compCode Try.prog Try.f18.ntmps Try.f18.body.get! = some c18 := by kernel_rfl
theorem r18 : resTmps Try.prog Try.f18.results.toList = some [.tmp 4] := by kernel_rfl
/- laws.heldEffect -/
def c19 : TCode := (.seq (.ops [⟨(some 2), 4, .box 10 (.t 0), none, []⟩, ⟨(some 4), 6, .mv (.c (.i .i64 0)), none, []⟩])
  (.seq (.ops [⟨(some 5), 7, .faddr 0 1 (.t 2), none, []⟩, ⟨(some 6), 8, .load false 1 (.t 5), none, []⟩, ⟨(some 7), 9, .mv (.t 1), none, []⟩, ⟨(some 8), 10, .call 35 [((.t 6), 0), ((.t 7), 0)], none, []⟩, ⟨(some 1), 3, .mv (.t 8), none, []⟩])
  (.seq (.seq (.ops [⟨(some 9), 11, .mv (.t 1), none, []⟩, ⟨(some 10), 12, .bin .lss (.t 9) (.c (.i .i64 0)), none, []⟩])
  (.cond (.t 10)
  (.seq (.ops [⟨(some 4), 6, .mv (.c (.i .i64 (-1))), none, []⟩])
  .ret)
  .skip))
  (.seq (.ops [⟨(some 11), 13, .faddr 1 1 (.t 2), none, []⟩, ⟨(some 12), 14, .load false 1 (.t 11), none, []⟩, ⟨(some 13), 15, .mv (.t 1), none, []⟩, ⟨(some 14), 16, .call 35 [((.t 12), 0), ((.t 13), 0)], none, []⟩, ⟨(some 1), 3, .mv (.t 14), none, []⟩])
  (.seq (.seq (.ops [⟨(some 15), 17, .mv (.t 1), none, []⟩, ⟨(some 16), 18, .bin .lss (.t 15) (.c (.i .i64 0)), none, []⟩])
  (.cond (.t 16)
  (.seq (.ops [⟨(some 4), 6, .mv (.c (.i .i64 (-1))), none, []⟩])
  .ret)
  .skip))
  (.seq (.ops [⟨(some 17), 19, .faddr 2 1 (.t 2), none, []⟩, ⟨(some 18), 20, .load false 1 (.t 17), none, []⟩, ⟨(some 19), 21, .mv (.t 1), none, []⟩, ⟨(some 20), 22, .call 35 [((.t 18), 0), ((.t 19), 0)], none, []⟩, ⟨(some 1), 3, .mv (.t 20), none, []⟩])
  (.seq (.seq (.ops [⟨(some 21), 23, .mv (.t 1), none, []⟩, ⟨(some 22), 24, .bin .lss (.t 21) (.c (.i .i64 0)), none, []⟩])
  (.cond (.t 22)
  (.seq (.ops [⟨(some 4), 6, .mv (.c (.i .i64 (-1))), none, []⟩])
  .ret)
  .skip))
  (.seq (.ops [⟨(some 23), 25, .faddr 3 1 (.t 2), none, []⟩, ⟨(some 24), 26, .load false 1 (.t 23), none, []⟩, ⟨(some 25), 27, .mv (.t 1), none, []⟩, ⟨(some 26), 28, .call 35 [((.t 24), 0), ((.t 25), 0)], none, []⟩, ⟨(some 1), 3, .mv (.t 26), none, []⟩])
  (.seq (.seq (.ops [⟨(some 27), 29, .mv (.t 1), none, []⟩, ⟨(some 28), 30, .bin .lss (.t 27) (.c (.i .i64 0)), none, []⟩])
  (.cond (.t 28)
  (.seq (.ops [⟨(some 4), 6, .mv (.c (.i .i64 (-1))), none, []⟩])
  .ret)
  .skip))
  (.seq (.ops [⟨(some 29), 31, .faddr 4 1 (.t 2), none, []⟩, ⟨(some 30), 32, .load false 1 (.t 29), none, []⟩, ⟨(some 31), 33, .mv (.t 1), none, []⟩, ⟨(some 32), 34, .call 35 [((.t 30), 0), ((.t 31), 0)], none, []⟩, ⟨(some 1), 3, .mv (.t 32), none, []⟩])
  (.seq (.seq (.ops [⟨(some 33), 35, .mv (.t 1), none, []⟩, ⟨(some 34), 36, .bin .lss (.t 33) (.c (.i .i64 0)), none, []⟩])
  (.cond (.t 34)
  (.seq (.ops [⟨(some 4), 6, .mv (.c (.i .i64 (-1))), none, []⟩])
  .ret)
  .skip))
  (.seq (.ops [⟨(some 35), 37, .faddr 5 1 (.t 2), none, []⟩, ⟨(some 36), 38, .load false 1 (.t 35), none, []⟩, ⟨(some 37), 39, .mv (.t 1), none, []⟩, ⟨(some 38), 40, .call 35 [((.t 36), 0), ((.t 37), 0)], none, []⟩, ⟨(some 1), 3, .mv (.t 38), none, []⟩])
  (.seq (.seq (.ops [⟨(some 39), 41, .mv (.t 1), none, []⟩, ⟨(some 40), 42, .bin .lss (.t 39) (.c (.i .i64 0)), none, []⟩])
  (.cond (.t 40)
  (.seq (.ops [⟨(some 4), 6, .mv (.c (.i .i64 (-1))), none, []⟩])
  .ret)
  .skip))
  (.seq (.ops [⟨(some 41), 43, .faddr 6 1 (.t 2), none, []⟩, ⟨(some 42), 44, .load false 1 (.t 41), none, []⟩, ⟨(some 43), 45, .mv (.t 1), none, []⟩, ⟨(some 44), 46, .call 35 [((.t 42), 0), ((.t 43), 0)], none, []⟩, ⟨(some 1), 3, .mv (.t 44), none, []⟩])
  (.seq (.seq (.ops [⟨(some 45), 47, .mv (.t 1), none, []⟩, ⟨(some 46), 48, .bin .lss (.t 45) (.c (.i .i64 0)), none, []⟩])
  (.cond (.t 46)
  (.seq (.ops [⟨(some 4), 6, .mv (.c (.i .i64 (-1))), none, []⟩])
  .ret)
  .skip))
  (.seq (.ops [⟨(some 47), 49, .faddr 7 1 (.t 2), none, []⟩, ⟨(some 48), 50, .load false 1 (.t 47), none, []⟩, ⟨(some 49), 51, .mv (.t 1), none, []⟩, ⟨(some 50), 52, .call 35 [((.t 48), 0), ((.t 49), 0)], none, []⟩, ⟨(some 1), 3, .mv (.t 50), none, []⟩])
  (.seq (.seq (.ops [⟨(some 51), 53, .mv (.t 1), none, []⟩, ⟨(some 52), 54, .bin .lss (.t 51) (.c (.i .i64 0)), none, []⟩])
  (.cond (.t 52)
  (.seq (.ops [⟨(some 4), 6, .mv (.c (.i .i64 (-1))), none, []⟩])
  .ret)
  .skip))
  (.seq (.ops [⟨(some 53), 55, .mv (.t 1), none, []⟩, ⟨(some 4), 6, .mv (.t 53), none, []⟩])
  .ret))))))))))))))))))
theorem k19 : compCode Try.prog Try.f19.ntmps Try.f19.body.get! = some c19 := by kernel_rfl
theorem r19 : resTmps Try.prog Try.f19.results.toList = some [.tmp 4] := by kernel_rfl
/- laws.FnExactEffJoin -/
def c3 : TCode := (.seq (.ops [⟨(some 2), 4, .box 10 (.t 0), none, []⟩, ⟨(some 3), 5, .box 10 (.t 1), none, []⟩, ⟨(some 4), 6, .mv (.c (.b false)), none, []⟩])
  (.seq (.ops [⟨(some 5), 7, .mv (.c (.i .i64 1048576)), none, []⟩])
  (.seq (.ops [⟨(some 14), 16, .load true 10 (.t 2), none, []⟩, ⟨(some 15), 17, .mv (.t 5), none, []⟩, ⟨(some 16), 18, .call 13 [((.t 14), 0), ((.t 15), 0)], none, []⟩, ⟨(some 5), 7, .mv (.t 16), none, []⟩])
  (.seq (.seq (.ops [⟨(some 17), 19, .mv (.t 5), none, []⟩, ⟨(some 18), 20, .bin .lss (.t 17) (.c (.i .i64 0)), none, []⟩])
  (.cond (.t 18)
  (.seq (.ops [⟨(some 4), 6, .mv (.c (.b true)), none, []⟩])
  .ret)
  .skip))
  (.seq (.ops [⟨(some 19), 21, .load true 10 (.t 3), none, []⟩, ⟨(some 20), 22, .mv (.t 5), none, []⟩, ⟨(some 21), 23, .call 13 [((.t 19), 0), ((.t 20), 0)], none, []⟩, ⟨(some 5), 7, .mv (.t 21), none, []⟩])
  (.seq (.seq (.ops [⟨(some 22), 24, .mv (.t 5), none, []⟩, ⟨(some 23), 25, .bin .lss (.t 22) (.c (.i .i64 0)), none, []⟩])
  (.cond (.t 23)
  (.seq (.ops [⟨(some 4), 6, .mv (.c (.b true)), none, []⟩])
  .ret)
  .skip))
  (.seq (.draw [⟨(some 24), 26, .load true 10 (.t 2), none, []⟩, ⟨(some 25), 27, .call 15 [((.t 24), 0)], none, []⟩, ⟨(some 26), 28, .load true 10 (.t 3), none, [1]⟩, ⟨(some 27), 29, .call 15 [((.t 26), 0)], none, []⟩, ⟨(some 28), 30, .call 14 [((.t 25), 0), ((.t 27), 0)], none, []⟩, ⟨(some 6), 8, .box 10 (.c (.ag [(.sl true 1 []), (.sl true 1 []), (.sl true 1 []), (.sl true 1 []), (.sl true 1 []), (.sl true 1 []), (.sl true 1 []), (.sl true 1 []), (.b false), (.b false)])), none, [0, 1, 2, 3, 4]⟩, ⟨none, 1008006, .store 10 (.t 6) (.t 28), none, []⟩])
  (.seq (.ops [⟨(some 29), 31, .load true 10 (.t 2), none, []⟩, ⟨(some 30), 32, .call 15 [((.t 29), 0)], none, []⟩, ⟨(some 7), 9, .box 10 (.c (.ag [(.sl true 1 []), (.sl true 1 []), (.sl true 1 []), (.sl true 1 []), (.sl true 1 []), (.sl true 1 []), (.sl true 1 []), (.sl true 1 []), (.b false), (.b false)])), none, []⟩, ⟨none, 1009003, .store 10 (.t 7) (.t 30), none, []⟩])
  (.seq (.ops [⟨(some 31), 33, .load true 10 (.t 3), none, []⟩, ⟨(some 32), 34, .call 15 [((.t 31), 0)], none, []⟩, ⟨(some 8), 10, .box 10 (.c (.ag [(.sl true 1 []), (.sl true 1 []), (.sl true 1 []), (.sl true 1 []), (.sl true 1 []), (.sl true 1 []), (.sl true 1 []), (.sl true 1 []), (.b false), (.b false)])), none, []⟩, ⟨none, 1010003, .store 10 (.t 8) (.t 32), none, []⟩])
  (.seq (.ops [⟨(some 33), 35, .load true 10 (.t 7), none, []⟩, ⟨(some 34), 36, .load true 10 (.t 8), none, []⟩, ⟨(some 35), 37, .call 16 [((.t 33), 0), ((.t 34), 0)], none, []⟩, ⟨(some 9), 11, .box 10 (.c (.ag [(.sl true 1 []), (.sl true 1 []), (.sl true 1 []), (.sl true 1 []), (.sl true 1 []), (.sl true 1 []), (.sl true 1 []), (.sl true 1 []), (.b false), (.b false)])), none, []⟩, ⟨none, 1011004, .store 10 (.t 9) (.t 35), none, []⟩])
  (.seq (.seq (.ops [⟨(some 36), 38, .load true 10 (.t 9), none, []⟩, ⟨(some 37), 39, .load true 10 (.t 6), none, []⟩, ⟨(some 38), 40, .call 17 [((.t 36), 0), ((.t 37), 0)], none, []⟩, ⟨(some 39), 41, .un .not (.t 38), none, []⟩])
  (.cond (.t 39)
  (.seq (.ops [⟨(some 4), 6, .mv (.c (.b false)), none, []⟩])
  .ret)
  .skip))
  (.seq (.seq (.draw [⟨(some 40), 42, .load true 10 (.t 7), none, []⟩, ⟨(some 41), 43, .load true 10 (.t 2), none, []⟩, ⟨(some 42), 44, .call 15 [((.t 41), 0)], none, [0]⟩, ⟨(some 43), 45, .call 17 [((.t 40), 0), ((.t 42), 0)], none, []⟩, ⟨(some 44), 46, .un .not (.t 43), none, []⟩])
  (.cond (.t 44)
  (.seq (.ops [⟨(some 4), 6, .mv (.c (.b false)), none, []⟩])
  .ret)
  .skip))
  (.seq (.seq (.draw [⟨(some 45), 47, .load true 10 (.t 8), none, []⟩, ⟨(some 46), 48, .load true 10 (.t 3), none, []⟩, ⟨(some 47), 49, .call 15 [((.t 46), 0)], none, [0]⟩, ⟨(some 48), 50, .call 17 [((.t 45), 0), ((.t 47), 0)], none, []⟩, ⟨(some 49), 51, .un .not (.t 48), none, []⟩])
  (.cond (.t 49)
  (.seq (.ops [⟨(some 4), 6, .mv (.c (.b false)), none, []⟩])
  .ret)
  .skip))
  (.seq (.ops [⟨(some 10), 12, .mv (.c (.i .i64 1)), none, []⟩])
  (.seq (.ops [⟨(some 50), 52, .load true 10 (.t 7), none, []⟩, ⟨(some 51), 53, .mv (.t 10), none, []⟩, ⟨(some 52), 54, .call 18 [((.t 50), 0), ((.t 51), 0)], none, []⟩, ⟨(some 10), 12, .mv (.t 52), none, []⟩])
  (.seq (.ops [⟨(some 53), 55, .load true 10 (.t 8), none, []⟩, ⟨(some 54), 56, .mv (.t 10), none, []⟩, ⟨(some 55), 57, .call 18 [((.t 53), 0), ((.t 54), 0)], none, []⟩, ⟨(some 10), 12, .mv (.t 55), none, []⟩])
  (.seq (.seq (.ops [⟨(some 56), 58, .mv (.t 10), none, []⟩, ⟨(some 57), 59, .bin .lss (.t 56) (.c (.i .i64 0)), none, []⟩, ⟨(some 58), 60, .mv (.t 57), none, []⟩, ⟨(some 59), 61, .load true 10 (.t 9), (some (58, false)), []⟩, ⟨(some 60), 62, .load true 10 (.t 6), (some (58, false)), []⟩, ⟨(some 61), 63, .call 17 [((.t 59), 0), ((.t 60), 0)], (some (58, false)), []⟩, ⟨(some 62), 64, .un .not (.t 61), (some (58, false)), []⟩, ⟨(some 63), 65, .pick (.t 58) (.c (.b true)) (.t 62), none, []⟩])
  (.cond (.t 63)
  (.seq (.ops [⟨(some 4), 6, .mv (.c (.b false)), none, []⟩])
  .ret)
  .skip))
  (.seq (.ops [⟨(some 11), 13, .mv (.c (.i .i64 1)), none, []⟩])
  (.seq (.ops [⟨(some 64), 66, .load true 10 (.t 9), none, []⟩, ⟨(some 65), 67, .mv (.t 11), none, []⟩, ⟨(some 66), 68, .call 18 [((.t 64), 0), ((.t 65), 0)], none, []⟩, ⟨(some 11), 13, .mv (.t 66), none, []⟩])
  (.seq (.ops [⟨(some 12), 14, .mv (.c (.i .i64 1)), none, []⟩])
  (.seq (.ops [⟨(some 67), 69, .load true 10 (.t 9), none, []⟩, ⟨(some 68), 70, .mv (.t 12), none, []⟩, ⟨(some 69), 71, .call 19 [((.t 67), 0), ((.t 68), 0)], none, []⟩, ⟨(some 12), 14, .mv (.t 69), none, []⟩])
  (.seq (.seq (.ops [⟨(some 70), 72, .mv (.t 12), none, []⟩, ⟨(some 71), 73, .bin .lss (.t 70) (.c (.i .i64 0)), none, []⟩])
  (.cond (.t 71)
  (.seq (.ops [⟨(some 4), 6, .mv (.c (.b false)), none, []⟩])
  .ret)
  .skip))
  (.seq (.seq (.ops [⟨(some 72), 74, .mv (.t 12), none, []⟩, ⟨(some 73), 75, .mv (.t 11), none, []⟩, ⟨(some 74), 76, .bin .neq (.t 72) (.t 73), none, []⟩])
  (.cond (.t 74)
  (.seq (.ops [⟨(some 4), 6, .mv (.c (.b false)), none, []⟩])
  .ret)
  .skip))
  (.seq (.draw [⟨(some 75), 77, .load true 10 (.t 2), none, []⟩, ⟨(some 76), 78, .call 15 [((.t 75), 0)], none, []⟩, ⟨(some 77), 79, .load true 10 (.t 3), none, [1]⟩, ⟨(some 78), 80, .call 15 [((.t 77), 0)], none, []⟩, ⟨(some 79), 81, .call 16 [((.t 76), 0), ((.t 78), 0)], none, []⟩, ⟨(some 13), 15, .box 10 (.c (.ag [(.sl true 1 []), (.sl true 1 []), (.sl true 1 []), (.sl true 1 []), (.sl true 1 []), (.sl true 1 []), (.sl true 1 []), (.sl true 1 []), (.b false), (.b false)])), none, [0, 1, 2, 3, 4]⟩, ⟨none, 1031006, .store 10 (.t 13) (.t 79), none, []⟩])
  (.seq (.seq (.ops [⟨(some 80), 82, .load true 10 (.t 13), none, []⟩, ⟨(some 81), 83, .load true 10 (.t 6), none, []⟩, ⟨(some 82), 84, .call 17 [((.t 80), 0), ((.t 81), 0)], none, []⟩, ⟨(some 83), 85, .un .not (.t 82), none, []⟩])
  (.cond (.t 83)
  (.seq (.ops [⟨(some 4), 6, .mv (.c (.b false)), none, []⟩])
  .ret)
  .skip))
  (.seq (.ops [⟨(some 12), 14, .mv (.c (.i .i64 1)), none, []⟩])
  (.seq (.ops [⟨(some 84), 86, .load true 10 (.t 9), none, []⟩, ⟨(some 85), 87, .mv (.t 12), none, []⟩, ⟨(some 86), 88, .call 19 [((.t 84), 0), ((.t 85), 0)], none, []⟩, ⟨(some 12), 14, .mv (.t 86), none, []⟩])
  (.seq (.seq (.ops [⟨(some 87), 89, .mv (.t 12), none, []⟩, ⟨(some 88), 90, .bin .lss (.t 87) (.c (.i .i64 0)), none, []⟩])
  (.cond (.t 88)
  (.seq (.ops [⟨(some 4), 6, .mv (.c (.b false)), none, []⟩])
  .ret)
  .skip))
  (.seq (.seq (.ops [⟨(some 89), 91, .mv (.t 12), none, []⟩, ⟨(some 90), 92, .mv (.t 11), none, []⟩, ⟨(some 91), 93, .bin .neq (.t 89) (.t 90), none, []⟩])
  (.cond (.t 91)
  (.seq (.ops [⟨(some 4), 6, .mv (.c (.b false)), none, []⟩])
  .ret)
  .skip))
  (.seq (.ops [⟨(some 4), 6, .mv (.c (.b true)), none, []⟩])
  .ret))))))))))))))))))))))))))))))
theorem k3 : compCode Try.prog Try.f3.ntmps Try.f3.body.get! = some c3 := by kernel_rfl
theorem r3 : resTmps Try.prog Try.f3.results.toList = some [.tmp 4] := by kernel_rfl

theorem w69 (a b : List Int) (ha : a.length ≤ 2^39) (hb : b.length ≤ 2^39) : Contract Try.prog false 69 [.ro, .ro] [.sl false 1 (a.map iT), .sl false 1 (b.map iT)] [.sl true 1 ((asc (a ++ b)).map iT)] [] := by
  refine mk_contract [] Try.func69 (c := Try.f69.body.get!) (by kernel_rfl) k69 r69 (of_decide_eq_true rfl) fun _ => ?_
  unfold c69; simp
  refine ⟨by omega, by omega, ?_⟩
  have hC := w77 (a ++ b) (by simp; omega)
  rw [List.map_append] at hC
  refine callW_ms [.ro] ?_
  simp
  refine callX_of hC (by simp) ?_
  simp
theorem w70 (a b : List Int) (ha : a.length ≤ 2^39) (hb : b.length ≤ 2^39) : Contract Try.prog false 70 [.ro, .ro] [.sl false 1 (a.map iT), .sl false 1 (b.map iT)] [.sl true 1 ((asc (a ++ b)).map iT)] [] := by
  refine mk_contract [] Try.func70 (c := Try.f70.body.get!) (by kernel_rfl) k70 r70 (of_decide_eq_true rfl) fun _ => ?_
  unfold c70; simp
  refine callW_ms [.ro] ?_
  simp
  refine callX_of (w130 a (by omega)) (by simp) ?_
  simp
  refine ⟨by omega, ?_⟩
  have hC := w78 (a ++ b) (by simp; omega)
  rw [List.map_append] at hC
  refine callW_ms [.own] ?_
  simp
  refine callX_of hC (by simp) ?_
  simp
def effJ (a b : EffP) : EffP := (asc (a.1 ++ b.1), asc (a.2.1 ++ b.2.1), asc (a.2.2.1 ++ b.2.2.1), asc (a.2.2.2.1 ++ b.2.2.2.1), asc (a.2.2.2.2.1 ++ b.2.2.2.2.1), asc (a.2.2.2.2.2.1 ++ b.2.2.2.2.2.1), asc (a.2.2.2.2.2.2.1 ++ b.2.2.2.2.2.2.1), asc (a.2.2.2.2.2.2.2.1 ++ b.2.2.2.2.2.2.2.1), a.2.2.2.2.2.2.2.2.1 || b.2.2.2.2.2.2.2.2.1, a.2.2.2.2.2.2.2.2.2 || b.2.2.2.2.2.2.2.2.2)
theorem effJ_b {a b : EffP} {k : Nat} (ha : effB k a) (hb : effB k b) : effB (2 * k) (effJ a b) := by
  unfold effB at ha hb ⊢
  have h := fun (x y : List Int) => asc_len (x ++ y)
  simp only [List.length_append] at h
  have h0 := h a.1 b.1
  have h1 := h a.2.1 b.2.1
  have h2 := h a.2.2.1 b.2.2.1
  have h3 := h a.2.2.2.1 b.2.2.2.1
  have h4 := h a.2.2.2.2.1 b.2.2.2.2.1
  have h5 := h a.2.2.2.2.2.1 b.2.2.2.2.2.1
  have h6 := h a.2.2.2.2.2.2.1 b.2.2.2.2.2.2.1
  have h7 := h a.2.2.2.2.2.2.2.1 b.2.2.2.2.2.2.2.1
  simp only [effJ]
  omega
set_option maxRecDepth 100000 in
theorem w14 (a b : EffP) (ha : effB (2^39) a) (hb : effB (2^39) b) : Contract Try.prog false 14 [.ro, .ro] [effR a, effR b] [effO (effJ a b)] [] := by
  refine mk_contract [] Try.func14 (c := Try.f14.body.get!) (by kernel_rfl) k14 r14 (of_decide_eq_true rfl) fun _ => ?_
  obtain ⟨a1, a2, a3, a4, a5, a6, a7, a8⟩ := ha
  obtain ⟨b1, b2, b3, b4, b5, b6, b7, b8⟩ := hb
  unfold c14; unfold effR effO effJ; simp
  refine callW_ms [.ro, .ro] ?_
  simp
  refine callX_of (w69 a.1 b.1 a1 b1) (by simp) ?_
  simp
  refine callW_ms [.ro, .ro] ?_
  simp
  refine callX_of (w69 a.2.1 b.2.1 a2 b2) (by simp) ?_
  simp
  refine callW_ms [.ro, .ro] ?_
  simp
  refine callX_of (w69 a.2.2.1 b.2.2.1 a3 b3) (by simp) ?_
  simp
  refine callW_ms [.ro, .ro] ?_
  simp
  refine callX_of (w69 a.2.2.2.1 b.2.2.2.1 a4 b4) (by simp) ?_
  simp
  refine callW_ms [.ro, .ro] ?_
  simp
  refine callX_of (w69 a.2.2.2.2.1 b.2.2.2.2.1 a5 b5) (by simp) ?_
  simp
  refine callW_ms [.ro, .ro] ?_
  simp
  refine callX_of (w69 a.2.2.2.2.2.1 b.2.2.2.2.2.1 a6 b6) (by simp) ?_
  simp
  refine callW_ms [.ro, .ro] ?_
  simp
  refine callX_of (w69 a.2.2.2.2.2.2.1 b.2.2.2.2.2.2.1 a7 b7) (by simp) ?_
  simp
  refine callW_ms [.ro, .ro] ?_
  simp
  refine callX_of (w69 a.2.2.2.2.2.2.2.1 b.2.2.2.2.2.2.2.1 a8 b8) (by simp) ?_
  simp
  cases h9 : a.2.2.2.2.2.2.2.2.1 <;> cases h10 : a.2.2.2.2.2.2.2.2.2 <;> simp [h9, h10]
set_option maxRecDepth 100000 in
theorem w16 (a b : EffP) (ha : effB (2^39) a) (hb : effB (2^39) b) : Contract Try.prog false 16 [.ro, .ro] [effR a, effR b] [effO (effJ a b)] [] := by
  refine mk_contract [] Try.func16 (c := Try.f16.body.get!) (by kernel_rfl) k16 r16 (of_decide_eq_true rfl) fun _ => ?_
  obtain ⟨a1, a2, a3, a4, a5, a6, a7, a8⟩ := ha
  obtain ⟨b1, b2, b3, b4, b5, b6, b7, b8⟩ := hb
  unfold c16; unfold effR effO effJ; simp
  refine callW_ms [.ro, .ro] ?_
  simp
  refine callX_of (w70 a.1 b.1 a1 b1) (by simp) ?_
  simp
  refine callW_ms [.ro, .ro] ?_
  simp
  refine callX_of (w70 a.2.1 b.2.1 a2 b2) (by simp) ?_
  simp
  refine callW_ms [.ro, .ro] ?_
  simp
  refine callX_of (w70 a.2.2.1 b.2.2.1 a3 b3) (by simp) ?_
  simp
  refine callW_ms [.ro, .ro] ?_
  simp
  refine callX_of (w70 a.2.2.2.1 b.2.2.2.1 a4 b4) (by simp) ?_
  simp
  refine callW_ms [.ro, .ro] ?_
  simp
  refine callX_of (w70 a.2.2.2.2.1 b.2.2.2.2.1 a5 b5) (by simp) ?_
  simp
  refine callW_ms [.ro, .ro] ?_
  simp
  refine callX_of (w70 a.2.2.2.2.2.1 b.2.2.2.2.2.1 a6 b6) (by simp) ?_
  simp
  refine callW_ms [.ro, .ro] ?_
  simp
  refine callX_of (w70 a.2.2.2.2.2.2.1 b.2.2.2.2.2.2.1 a7 b7) (by simp) ?_
  simp
  refine callW_ms [.ro, .ro] ?_
  simp
  refine callX_of (w70 a.2.2.2.2.2.2.2.1 b.2.2.2.2.2.2.2.1 a8 b8) (by simp) ?_
  simp
  cases h9 : a.2.2.2.2.2.2.2.2.1 <;> cases h10 : a.2.2.2.2.2.2.2.2.2 <;> simp [h9, h10]
def nEf (e : EffP) : Nat := e.1.length + e.2.1.length + e.2.2.1.length + e.2.2.2.1.length + e.2.2.2.2.1.length + e.2.2.2.2.2.1.length + e.2.2.2.2.2.2.1.length + e.2.2.2.2.2.2.2.1.length
def mkEf (k : Int) (e : EffP) : EffP := (cnt (k) e.1.length, cnt (k + e.1.length) e.2.1.length, cnt (k + e.1.length + e.2.1.length) e.2.2.1.length, cnt (k + e.1.length + e.2.1.length + e.2.2.1.length) e.2.2.2.1.length, cnt (k + e.1.length + e.2.1.length + e.2.2.1.length + e.2.2.2.1.length) e.2.2.2.2.1.length, cnt (k + e.1.length + e.2.1.length + e.2.2.1.length + e.2.2.2.1.length + e.2.2.2.2.1.length) e.2.2.2.2.2.1.length, cnt (k + e.1.length + e.2.1.length + e.2.2.1.length + e.2.2.2.1.length + e.2.2.2.2.1.length + e.2.2.2.2.2.1.length) e.2.2.2.2.2.2.1.length, cnt (k + e.1.length + e.2.1.length + e.2.2.1.length + e.2.2.2.1.length + e.2.2.2.2.1.length + e.2.2.2.2.2.1.length + e.2.2.2.2.2.2.1.length) e.2.2.2.2.2.2.2.1.length, e.2.2.2.2.2.2.2.2.1, e.2.2.2.2.2.2.2.2.2)
@[simp] theorem mkEf_1 (k : Int) (e : EffP) : (mkEf k e).1.length = e.1.length := by simp [mkEf]
@[simp] theorem mkEf_2 (k : Int) (e : EffP) : (mkEf k e).2.1.length = e.2.1.length := by simp [mkEf]
@[simp] theorem mkEf_3 (k : Int) (e : EffP) : (mkEf k e).2.2.1.length = e.2.2.1.length := by simp [mkEf]
@[simp] theorem mkEf_4 (k : Int) (e : EffP) : (mkEf k e).2.2.2.1.length = e.2.2.2.1.length := by simp [mkEf]
@[simp] theorem mkEf_5 (k : Int) (e : EffP) : (mkEf k e).2.2.2.2.1.length = e.2.2.2.2.1.length := by simp [mkEf]
@[simp] theorem mkEf_6 (k : Int) (e : EffP) : (mkEf k e).2.2.2.2.2.1.length = e.2.2.2.2.2.1.length := by simp [mkEf]
@[simp] theorem mkEf_7 (k : Int) (e : EffP) : (mkEf k e).2.2.2.2.2.2.1.length = e.2.2.2.2.2.2.1.length := by simp [mkEf]
@[simp] theorem mkEf_8 (k : Int) (e : EffP) : (mkEf k e).2.2.2.2.2.2.2.1.length = e.2.2.2.2.2.2.2.1.length := by simp [mkEf]
@[simp] theorem mkEf_9 (k : Int) (e : EffP) : (mkEf k e).2.2.2.2.2.2.2.2.1 = e.2.2.2.2.2.2.2.2.1 := rfl
@[simp] theorem mkEf_10 (k : Int) (e : EffP) : (mkEf k e).2.2.2.2.2.2.2.2.2 = e.2.2.2.2.2.2.2.2.2 := rfl
set_option maxRecDepth 100000 in
theorem w18 (e : EffP) (k : Int) (hb : effB (2^30) e) (hk : 0 ≤ k) (hk2 : k ≤ 2^36) : Contract Try.prog false 18 [.own, .ro] [effO e, .i .i64 k] [.i .i64 (k + nEf e)] [some (.sl true 1 ((mkEf k e).1.map iT)), some (.sl true 1 ((mkEf k e).2.1.map iT)), some (.sl true 1 ((mkEf k e).2.2.1.map iT)), some (.sl true 1 ((mkEf k e).2.2.2.1.map iT)), some (.sl true 1 ((mkEf k e).2.2.2.2.1.map iT)), some (.sl true 1 ((mkEf k e).2.2.2.2.2.1.map iT)), some (.sl true 1 ((mkEf k e).2.2.2.2.2.2.1.map iT)), some (.sl true 1 ((mkEf k e).2.2.2.2.2.2.2.1.map iT)), none, none] := by
  refine mk_contract [some [(4, 0), (0, 0)], some [(4, 0), (0, 1)], some [(4, 0), (0, 2)], some [(4, 0), (0, 3)], some [(4, 0), (0, 4)], some [(4, 0), (0, 5)], some [(4, 0), (0, 6)], some [(4, 0), (0, 7)], none, none] Try.func18 (c := Try.f18.body.get!) (by kernel_rfl) k18 r18 (of_decide_eq_true rfl) fun _ => ?_
  obtain ⟨b1, b2, b3, b4, b5, b6, b7, b8⟩ := hb
  unfold c18; unfold effO mkEf nEf; simp
  refine callW_ms [.own, .ro] ?_
  simp
  refine callX_of (w34 e.1 (k) (by omega) (by omega) (by omega)) (by simp) ?_
  simp
  refine callW_ms [.own, .ro] ?_
  simp
  refine callX_of (w34 e.2.1 (k + e.1.length) (by omega) (by omega) (by omega)) (by simp) ?_
  simp
  refine callW_ms [.own, .ro] ?_
  simp
  refine callX_of (w34 e.2.2.1 (k + e.1.length + e.2.1.length) (by omega) (by omega) (by omega)) (by simp) ?_
  simp
  refine callW_ms [.own, .ro] ?_
  simp
  refine callX_of (w34 e.2.2.2.1 (k + e.1.length + e.2.1.length + e.2.2.1.length) (by omega) (by omega) (by omega)) (by simp) ?_
  simp
  refine callW_ms [.own, .ro] ?_
  simp
  refine callX_of (w34 e.2.2.2.2.1 (k + e.1.length + e.2.1.length + e.2.2.1.length + e.2.2.2.1.length) (by omega) (by omega) (by omega)) (by simp) ?_
  simp
  refine callW_ms [.own, .ro] ?_
  simp
  refine callX_of (w34 e.2.2.2.2.2.1 (k + e.1.length + e.2.1.length + e.2.2.1.length + e.2.2.2.1.length + e.2.2.2.2.1.length) (by omega) (by omega) (by omega)) (by simp) ?_
  simp
  refine callW_ms [.own, .ro] ?_
  simp
  refine callX_of (w34 e.2.2.2.2.2.2.1 (k + e.1.length + e.2.1.length + e.2.2.1.length + e.2.2.2.1.length + e.2.2.2.2.1.length + e.2.2.2.2.2.1.length) (by omega) (by omega) (by omega)) (by simp) ?_
  simp
  refine callW_ms [.own, .ro] ?_
  simp
  refine callX_of (w34 e.2.2.2.2.2.2.2.1 (k + e.1.length + e.2.1.length + e.2.2.1.length + e.2.2.2.1.length + e.2.2.2.2.1.length + e.2.2.2.2.2.1.length + e.2.2.2.2.2.2.1.length) (by omega) (by omega) (by omega)) (by simp) ?_
  simp
  omega
set_option maxRecDepth 100000 in
theorem w19 (e : EffP) (k : Int) (hb : effB (2^30) e) (hk : 0 ≤ k) (hk2 : k ≤ 2^36) : Contract Try.prog false 19 [.ro, .ro] [effR (mkEf k e), .i .i64 k] [.i .i64 (k + nEf e)] [] := by
  refine mk_contract [] Try.func19 (c := Try.f19.body.get!) (by kernel_rfl) k19 r19 (of_decide_eq_true rfl) fun _ => ?_
  obtain ⟨b1, b2, b3, b4, b5, b6, b7, b8⟩ := hb
  unfold c19; unfold effR mkEf nEf; simp
  refine callW_ms [.ro, .ro] ?_
  simp
  refine callX_of (W35 e.1.length (k) (by omega) (by omega) (by omega)) (by simp) ?_
  simp [show ¬ ((k : Int) + e.1.length < 0) from by omega]
  refine callW_ms [.ro, .ro] ?_
  simp
  refine callX_of (W35 e.2.1.length (k + e.1.length) (by omega) (by omega) (by omega)) (by simp) ?_
  simp [show ¬ ((k : Int) + e.1.length + e.2.1.length < 0) from by omega]
  refine callW_ms [.ro, .ro] ?_
  simp
  refine callX_of (W35 e.2.2.1.length (k + e.1.length + e.2.1.length) (by omega) (by omega) (by omega)) (by simp) ?_
  simp [show ¬ ((k : Int) + e.1.length + e.2.1.length + e.2.2.1.length < 0) from by omega]
  refine callW_ms [.ro, .ro] ?_
  simp
  refine callX_of (W35 e.2.2.2.1.length (k + e.1.length + e.2.1.length + e.2.2.1.length) (by omega) (by omega) (by omega)) (by simp) ?_
  simp [show ¬ ((k : Int) + e.1.length + e.2.1.length + e.2.2.1.length + e.2.2.2.1.length < 0) from by omega]
  refine callW_ms [.ro, .ro] ?_
  simp
  refine callX_of (W35 e.2.2.2.2.1.length (k + e.1.length + e.2.1.length + e.2.2.1.length + e.2.2.2.1.length) (by omega) (by omega) (by omega)) (by simp) ?_
  simp [show ¬ ((k : Int) + e.1.length + e.2.1.length + e.2.2.1.length + e.2.2.2.1.length + e.2.2.2.2.1.length < 0) from by omega]
  refine callW_ms [.ro, .ro] ?_
  simp
  refine callX_of (W35 e.2.2.2.2.2.1.length (k + e.1.length + e.2.1.length + e.2.2.1.length + e.2.2.2.1.length + e.2.2.2.2.1.length) (by omega) (by omega) (by omega)) (by simp) ?_
  simp [show ¬ ((k : Int) + e.1.length + e.2.1.length + e.2.2.1.length + e.2.2.2.1.length + e.2.2.2.2.1.length + e.2.2.2.2.2.1.length < 0) from by omega]
  refine callW_ms [.ro, .ro] ?_
  simp
  refine callX_of (W35 e.2.2.2.2.2.2.1.length (k + e.1.length + e.2.1.length + e.2.2.1.length + e.2.2.2.1.length + e.2.2.2.2.1.length + e.2.2.2.2.2.1.length) (by omega) (by omega) (by omega)) (by simp) ?_
  simp [show ¬ ((k : Int) + e.1.length + e.2.1.length + e.2.2.1.length + e.2.2.2.1.length + e.2.2.2.2.1.length + e.2.2.2.2.2.1.length + e.2.2.2.2.2.2.1.length < 0) from by omega]
  refine callW_ms [.ro, .ro] ?_
  simp
  refine callX_of (W35 e.2.2.2.2.2.2.2.1.length (k + e.1.length + e.2.1.length + e.2.2.1.length + e.2.2.2.1.length + e.2.2.2.2.1.length + e.2.2.2.2.2.1.length + e.2.2.2.2.2.2.1.length) (by omega) (by omega) (by omega)) (by simp) ?_
  simp [show ¬ ((k : Int) + e.1.length + e.2.1.length + e.2.2.1.length + e.2.2.2.1.length + e.2.2.2.2.1.length + e.2.2.2.2.2.1.length + e.2.2.2.2.2.2.1.length + e.2.2.2.2.2.2.2.1.length < 0) from by omega]
  omega
set_option maxRecDepth 100000 in
theorem w3 (a b : EffP) (ha : effB 9223372036854775807 a) (hb : effB 9223372036854775807 b) : Contract Try.prog false 3 [.ro, .ro] [effR a, effR b] [.b true] [] := by
  refine mk_contract [] Try.func3 (c := Try.f3.body.get!) (by kernel_rfl) k3 r3 (of_decide_eq_true rfl) fun _ => ?_
  unfold c3; unfold effR; simp
  refine callW_ms [.ro, .ro] ?_
  simp [effR]
  refine callX_of (w13 a _ ha (by omega) (by omega)) (by simp) ?_
  simp
  intro h
  obtain ⟨n0, n1, ha1⟩ := szEff_ok (k := 2^20) (by omega) (by omega) (by omega : ¬ szEffF a 1048576 < 0)
  generalize szEffF a 1048576 = n at *
  refine callW_ms [.ro, .ro] ?_
  simp [effR]
  refine callX_of (w13 b n hb (by omega) n0) (by simp) ?_
  simp
  intro h2
  obtain ⟨-, -, hb1⟩ := szEff_ok (k := 2^20) n0 (by omega) (by omega : ¬ szEffF b n < 0)
  have ha2 : effB (2^40) a := by unfold effB at ha1 ⊢; omega
  have hb2 : effB (2^40) b := by unfold effB at hb1 ⊢; omega
  have ha3 : effB (2^39) a := by unfold effB at ha1 ⊢; omega
  have hb3 : effB (2^39) b := by unfold effB at hb1 ⊢; omega
  have ha4 : effB (2^30) a := by unfold effB at ha1 ⊢; omega
  have hb4 : effB (2^30) b := by unfold effB at hb1 ⊢; omega
  have hj1 := effJ_b ha1 hb1
  have hS := w14 a b ha3 hb3
  have hI := w16 a b ha3 hb3
  generalize effJ a b = w at *
  have hj2 : effB (2^40) w := by unfold effB at hj1 ⊢; omega
  have hj3 : effB (2^30) w := by unfold effB at hj1 ⊢; omega
  have na : nEf a ≤ 2^24 := by unfold effB at ha1; unfold nEf; omega
  have nb : nEf b ≤ 2^24 := by unfold effB at hb1; unfold nEf; omega
  have nw : nEf w ≤ 2^25 := by unfold effB at hj1; unfold nEf; omega
  refine callW_ms [.ro] ?_
  simp [effR]
  refine callX_of (w15 a ha2) (by simp) ?_
  simp [effO]
  refine callW_ms [.ro] ?_
  simp [effR]
  refine callX_of (w15 b hb2) (by simp) ?_
  simp [effO]
  refine callW_ms [.ro, .ro] ?_
  simp
  refine callX_of hS (by simp [effR]) ?_
  simp [effO]
  refine callW_ms [.ro] ?_
  simp [effR]
  refine callX_of (w15 a ha2) (by simp) ?_
  simp [effO]
  refine callW_ms [.ro] ?_
  simp [effR]
  refine callX_of (w15 b hb2) (by simp) ?_
  simp [effO]
  refine callW_ms [.ro, .ro] ?_
  simp
  refine callX_of hI (by simp [effR]) ?_
  simp [effO]
  refine callW_ms [.ro, .ro] ?_
  simp [effR]
  refine callX_of (w17 w hj2) (by simp) ?_
  simp
  refine callW_ms [.ro] ?_
  simp [effR]
  refine callX_of (w15 a ha2) (by simp) ?_
  simp [effO]
  refine callW_ms [.ro, .ro] ?_
  simp [effR]
  refine callX_of (w17 a ha2) (by simp) ?_
  simp
  refine callW_ms [.ro] ?_
  simp [effR]
  refine callX_of (w15 b hb2) (by simp) ?_
  simp [effO]
  refine callW_ms [.ro, .ro] ?_
  simp [effR]
  refine callX_of (w17 b hb2) (by simp) ?_
  simp
  have hk1 : ¬ (1 + (nEf a : Int) + nEf b < 0) := by omega
  refine callW_ms [.own, .ro] ?_
  simp [effO]
  refine callX_of (w18 a 1 ha4 (by omega) (by omega)) (by simp) ?_
  simp
  refine callW_ms [.own, .ro] ?_
  simp [effO]
  refine callX_of (w18 b (1 + nEf a) hb4 (by omega) (by omega)) (by simp) ?_
  simp [hk1]
  refine callW_ms [.ro, .ro] ?_
  simp [effR]
  refine callX_of (w17 w hj2) (by simp) ?_
  simp
  refine callW_ms [.own, .ro] ?_
  simp [effO]
  refine callX_of (w18 w 1 hj3 (by omega) (by omega)) (by simp) ?_
  simp
  refine callW_ms [.ro, .ro] ?_
  simp [effR]
  refine callX_of (w19 w 1 hj3 (by omega) (by omega)) (by simp) ?_
  simp
  refine ⟨by omega, fun _ => ?_⟩
  refine callW_ms [.ro] ?_
  simp [effR]
  refine callX_of (w15 a ha2) (by simp) ?_
  simp [effO]
  refine callW_ms [.ro] ?_
  simp [effR]
  refine callX_of (w15 b hb2) (by simp) ?_
  simp [effO]
  refine callW_ms [.ro, .ro] ?_
  simp
  refine callX_of hI (by simp [effR]) ?_
  simp [effO]
  refine callW_ms [.ro, .ro] ?_
  simp [effR]
  refine callX_of (w17 w hj2) (by simp) ?_
  simp
  refine callW_ms [.ro, .ro] ?_
  simp [effR]
  refine callX_of (w19 w 1 hj3 (by omega) (by omega)) (by simp) ?_
  simp
  omega
end Go.Proofs.YtmedelmfkciblaaT
