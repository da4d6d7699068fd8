/- Names and declarations. -/
import Derived.Test.YtloodkhdngipbaaKf
namespace Go.Proofs.YtloodkhdngipbaaT
set_option linter.unusedVariables false
set_option linter.unusedSimpArgs false
open Go

/- spec.l3Letter -/
def c142 : TCode := (.seq (.ops [⟨(some 2), 4, .mv (.c (.b false)), none, []⟩])
  (.seq (.ops [⟨(some 3), 5, .mv (.t 0), none, []⟩, ⟨(some 4), 6, .bin .geq (.t 3) (.c (.i .u8 97)), none, []⟩, ⟨(some 5), 7, .mv (.t 4), none, []⟩, ⟨(some 6), 8, .mv (.t 0), (some (5, true)), []⟩, ⟨(some 7), 9, .bin .leq (.t 6) (.c (.i .u8 122)), (some (5, true)), []⟩, ⟨(some 8), 10, .pick (.t 5) (.t 7) (.c (.b false)), none, []⟩, ⟨(some 9), 11, .mv (.t 8), none, []⟩, ⟨(some 10), 12, .mv (.t 0), (some (9, false)), []⟩, ⟨(some 11), 13, .bin .geq (.t 10) (.c (.i .u8 65)), (some (9, false)), []⟩, ⟨(some 12), 14, .mv (.t 11), (some (9, false)), []⟩, ⟨(some 13), 15, .mv (.t 0), (some (12, true)), []⟩, ⟨(some 14), 16, .bin .leq (.t 13) (.c (.i .u8 90)), (some (12, true)), []⟩, ⟨(some 15), 17, .pick (.t 12) (.t 14) (.c (.b false)), (some (9, false)), []⟩, ⟨(some 16), 18, .pick (.t 9) (.c (.b true)) (.t 15), none, []⟩, ⟨(some 2), 4, .mv (.t 16), none, []⟩])
  .ret))
theorem k142 : compCode Try.prog Try.f142.ntmps Try.f142.body.get! = some c142 := by kernel_rfl
theorem r142 : resTmps Try.prog Try.f142.results.toList = some [.tmp 2] := by kernel_rfl
/- impl.isLetter -/
def c105 : TCode := (.seq (.ops [⟨(some 2), 4, .mv (.c (.b false)), none, []⟩])
  (.seq (.ops [⟨(some 3), 5, .mv (.t 0), none, []⟩, ⟨(some 4), 6, .bin .geq (.t 3) (.c (.i .u8 97)), none, []⟩, ⟨(some 5), 7, .mv (.t 4), none, []⟩, ⟨(some 6), 8, .mv (.t 0), (some (5, true)), []⟩, ⟨(some 7), 9, .bin .leq (.t 6) (.c (.i .u8 122)), (some (5, true)), []⟩, ⟨(some 8), 10, .pick (.t 5) (.t 7) (.c (.b false)), none, []⟩, ⟨(some 9), 11, .mv (.t 8), none, []⟩, ⟨(some 10), 12, .mv (.t 0), (some (9, false)), []⟩, ⟨(some 11), 13, .bin .geq (.t 10) (.c (.i .u8 65)), (some (9, false)), []⟩, ⟨(some 12), 14, .mv (.t 11), (some (9, false)), []⟩, ⟨(some 13), 15, .mv (.t 0), (some (12, true)), []⟩, ⟨(some 14), 16, .bin .leq (.t 13) (.c (.i .u8 90)), (some (12, true)), []⟩, ⟨(some 15), 17, .pick (.t 12) (.t 14) (.c (.b false)), (some (9, false)), []⟩, ⟨(some 16), 18, .pick (.t 9) (.c (.b true)) (.t 15), none, []⟩, ⟨(some 2), 4, .mv (.t 16), none, []⟩])
  .ret))
theorem k105 : compCode Try.prog Try.f105.ntmps Try.f105.body.get! = some c105 := by kernel_rfl
theorem r105 : resTmps Try.prog Try.f105.results.toList = some [.tmp 2] := by kernel_rfl
/- spec.l3Words -/
def c160 : TCode := (.seq (.ops [⟨(some 0), 2, .mv (.c (.sl true 1 [])), none, []⟩])
  (.seq (.ops [⟨(some 1), 3, .bslice 1 32 [(.s ⟨#[]⟩)] [(0, (.c (.s ⟨#[115, 121, 115, 116, 101, 109]⟩))), (1, (.c (.s ⟨#[102, 110]⟩))), (2, (.c (.s ⟨#[108, 101, 116]⟩))), (3, (.c (.s ⟨#[105, 102]⟩))), (4, (.c (.s ⟨#[101, 108, 115, 101]⟩))), (5, (.c (.s ⟨#[108, 111, 111, 112]⟩))), (6, (.c (.s ⟨#[101, 97, 99, 104]⟩))), (7, (.c (.s ⟨#[119, 105, 116, 104]⟩))), (8, (.c (.s ⟨#[119, 105, 116, 104, 111, 117, 116]⟩))), (9, (.c (.s ⟨#[101, 109, 105, 116]⟩))), (10, (.c (.s ⟨#[104, 101, 97, 114]⟩))), (11, (.c (.s ⟨#[97, 115]⟩))), (12, (.c (.s ⟨#[115, 112, 97, 119, 110]⟩))), (13, (.c (.s ⟨#[107, 105, 108, 108]⟩))), (14, (.c (.s ⟨#[112, 117, 116]⟩))), (15, (.c (.s ⟨#[100, 114, 111, 112]⟩))), (16, (.c (.s ⟨#[100, 111]⟩))), (17, (.c (.s ⟨#[114, 101, 116, 117, 114, 110]⟩))), (18, (.c (.s ⟨#[112, 105, 99, 107]⟩))), (19, (.c (.s ⟨#[111, 102]⟩))), (20, (.c (.s ⟨#[121, 101, 115]⟩))), (21, (.c (.s ⟨#[110, 111]⟩))), (22, (.c (.s ⟨#[97, 110, 100]⟩))), (23, (.c (.s ⟨#[111, 114]⟩))), (24, (.c (.s ⟨#[110, 111, 116]⟩))), (25, (.c (.s ⟨#[105, 110, 116]⟩))), (26, (.c (.s ⟨#[114, 101, 97, 108]⟩))), (27, (.c (.s ⟨#[112, 97, 105, 114]⟩))), (28, (.c (.s ⟨#[98, 111, 111, 108]⟩))), (29, (.c (.s ⟨#[114, 101]⟩))), (30, (.c (.s ⟨#[105, 109]⟩))), (31, (.c (.s ⟨#[115, 105, 122, 101]⟩)))], none, []⟩, ⟨(some 0), 2, .mv (.t 1), none, []⟩])
  .ret))
theorem k160 : compCode Try.prog Try.f160.ntmps Try.f160.body.get! = some c160 := by kernel_rfl
theorem r160 : resTmps Try.prog Try.f160.results.toList = some [.tmp 0] := by kernel_rfl
/- spec.IsWord -/
def c143 : TCode := (.seq (.ops [⟨(some 2), 4, .mv (.c (.b false)), none, []⟩])
  (.seq (.ops [⟨(some 5), 7, .call 160 [], none, []⟩, ⟨(some 3), 5, .mv (.t 5), none, []⟩])
  (.seq (.seq (.ops [⟨(some 4), 6, .mv (.c (.i .i64 0)), none, []⟩])
  (.block 0 (.loop (.seq (.seq (.ops [⟨(some 6), 8, .mv (.t 4), none, []⟩, ⟨(some 7), 9, .mv (.t 3), none, []⟩, ⟨(some 8), 10, .len false (.t 7), none, []⟩, ⟨(some 9), 11, .bin .lss (.t 6) (.t 8), none, []⟩])
  (.cond (.t 9)
  .skip
  (.exit 0)))
  (.seq (.block 1 (.seq (.ops [⟨(some 12), 14, .mv (.t 3), none, []⟩, ⟨(some 13), 15, .mv (.t 4), none, []⟩, ⟨(some 14), 16, .iaddr 1 (.t 12) (.t 13), none, []⟩, ⟨(some 15), 17, .load false 1 (.t 14), none, []⟩, ⟨(some 16), 18, .mv (.t 0), none, []⟩, ⟨(some 17), 19, .bin .eql (.t 15) (.t 16), none, []⟩])
  (.cond (.t 17)
  (.seq (.ops [⟨(some 2), 4, .mv (.c (.b true)), none, []⟩])
  .ret)
  .skip)))
  (.ops [⟨(some 10), 12, .mv (.t 4), none, []⟩, ⟨(some 11), 13, .bin .add (.t 10) (.c (.i .i64 1)), none, []⟩, ⟨(some 4), 6, .mv (.t 11), none, []⟩]))))))
  (.seq (.ops [⟨(some 2), 4, .mv (.c (.b false)), none, []⟩])
  .ret))))
theorem k143 : compCode Try.prog Try.f143.ntmps Try.f143.body.get! = some c143 := by kernel_rfl
theorem r143 : resTmps Try.prog Try.f143.results.toList = some [.tmp 2] := by kernel_rfl
/- impl.IsWord -/
def c53 : TCode := (.seq (.ops [⟨(some 2), 4, .mv (.c (.b false)), none, []⟩])
  (.seq (.seq (.ops [⟨(some 3), 5, .mv (.t 0), none, []⟩])
  (.block 0 (.seq (.seq (.ops [⟨(some 5), 7, .bin .eql (.t 3) (.c (.s ⟨#[115, 121, 115, 116, 101, 109]⟩)), none, []⟩, ⟨(some 4), 6, .mv (.t 5), none, []⟩])
  (.cond (.t 4)
  .skip
  (.seq (.ops [⟨(some 6), 8, .bin .eql (.t 3) (.c (.s ⟨#[102, 110]⟩)), none, []⟩, ⟨(some 4), 6, .mv (.t 6), none, []⟩])
  (.cond (.t 4)
  .skip
  (.seq (.ops [⟨(some 7), 9, .bin .eql (.t 3) (.c (.s ⟨#[108, 101, 116]⟩)), none, []⟩, ⟨(some 4), 6, .mv (.t 7), none, []⟩])
  (.cond (.t 4)
  .skip
  (.seq (.ops [⟨(some 8), 10, .bin .eql (.t 3) (.c (.s ⟨#[105, 102]⟩)), none, []⟩, ⟨(some 4), 6, .mv (.t 8), none, []⟩])
  (.cond (.t 4)
  .skip
  (.seq (.ops [⟨(some 9), 11, .bin .eql (.t 3) (.c (.s ⟨#[101, 108, 115, 101]⟩)), none, []⟩, ⟨(some 4), 6, .mv (.t 9), none, []⟩])
  (.cond (.t 4)
  .skip
  (.seq (.ops [⟨(some 10), 12, .bin .eql (.t 3) (.c (.s ⟨#[108, 111, 111, 112]⟩)), none, []⟩, ⟨(some 4), 6, .mv (.t 10), none, []⟩])
  (.cond (.t 4)
  .skip
  (.seq (.ops [⟨(some 11), 13, .bin .eql (.t 3) (.c (.s ⟨#[101, 97, 99, 104]⟩)), none, []⟩, ⟨(some 4), 6, .mv (.t 11), none, []⟩])
  (.cond (.t 4)
  .skip
  (.seq (.ops [⟨(some 12), 14, .bin .eql (.t 3) (.c (.s ⟨#[119, 105, 116, 104]⟩)), none, []⟩, ⟨(some 4), 6, .mv (.t 12), none, []⟩])
  (.cond (.t 4)
  .skip
  (.seq (.ops [⟨(some 13), 15, .bin .eql (.t 3) (.c (.s ⟨#[119, 105, 116, 104, 111, 117, 116]⟩)), none, []⟩, ⟨(some 4), 6, .mv (.t 13), none, []⟩])
  (.cond (.t 4)
  .skip
  (.seq (.ops [⟨(some 14), 16, .bin .eql (.t 3) (.c (.s ⟨#[101, 109, 105, 116]⟩)), none, []⟩, ⟨(some 4), 6, .mv (.t 14), none, []⟩])
  (.cond (.t 4)
  .skip
  (.seq (.ops [⟨(some 15), 17, .bin .eql (.t 3) (.c (.s ⟨#[104, 101, 97, 114]⟩)), none, []⟩, ⟨(some 4), 6, .mv (.t 15), none, []⟩])
  (.cond (.t 4)
  .skip
  (.seq (.ops [⟨(some 16), 18, .bin .eql (.t 3) (.c (.s ⟨#[97, 115]⟩)), none, []⟩, ⟨(some 4), 6, .mv (.t 16), none, []⟩])
  (.cond (.t 4)
  .skip
  (.seq (.ops [⟨(some 17), 19, .bin .eql (.t 3) (.c (.s ⟨#[115, 112, 97, 119, 110]⟩)), none, []⟩, ⟨(some 4), 6, .mv (.t 17), none, []⟩])
  (.cond (.t 4)
  .skip
  (.seq (.ops [⟨(some 18), 20, .bin .eql (.t 3) (.c (.s ⟨#[107, 105, 108, 108]⟩)), none, []⟩, ⟨(some 4), 6, .mv (.t 18), none, []⟩])
  (.cond (.t 4)
  .skip
  (.seq (.ops [⟨(some 19), 21, .bin .eql (.t 3) (.c (.s ⟨#[112, 117, 116]⟩)), none, []⟩, ⟨(some 4), 6, .mv (.t 19), none, []⟩])
  (.cond (.t 4)
  .skip
  (.seq (.ops [⟨(some 20), 22, .bin .eql (.t 3) (.c (.s ⟨#[100, 114, 111, 112]⟩)), none, []⟩, ⟨(some 4), 6, .mv (.t 20), none, []⟩])
  (.cond (.t 4)
  .skip
  (.seq (.ops [⟨(some 21), 23, .bin .eql (.t 3) (.c (.s ⟨#[100, 111]⟩)), none, []⟩, ⟨(some 4), 6, .mv (.t 21), none, []⟩])
  (.cond (.t 4)
  .skip
  (.seq (.ops [⟨(some 22), 24, .bin .eql (.t 3) (.c (.s ⟨#[114, 101, 116, 117, 114, 110]⟩)), none, []⟩, ⟨(some 4), 6, .mv (.t 22), none, []⟩])
  (.cond (.t 4)
  .skip
  (.seq (.ops [⟨(some 23), 25, .bin .eql (.t 3) (.c (.s ⟨#[112, 105, 99, 107]⟩)), none, []⟩, ⟨(some 4), 6, .mv (.t 23), none, []⟩])
  (.cond (.t 4)
  .skip
  (.seq (.ops [⟨(some 24), 26, .bin .eql (.t 3) (.c (.s ⟨#[111, 102]⟩)), none, []⟩, ⟨(some 4), 6, .mv (.t 24), none, []⟩])
  (.cond (.t 4)
  .skip
  (.seq (.ops [⟨(some 25), 27, .bin .eql (.t 3) (.c (.s ⟨#[121, 101, 115]⟩)), none, []⟩, ⟨(some 4), 6, .mv (.t 25), none, []⟩])
  (.cond (.t 4)
  .skip
  (.seq (.ops [⟨(some 26), 28, .bin .eql (.t 3) (.c (.s ⟨#[110, 111]⟩)), none, []⟩, ⟨(some 4), 6, .mv (.t 26), none, []⟩])
  (.cond (.t 4)
  .skip
  (.seq (.ops [⟨(some 27), 29, .bin .eql (.t 3) (.c (.s ⟨#[97, 110, 100]⟩)), none, []⟩, ⟨(some 4), 6, .mv (.t 27), none, []⟩])
  (.cond (.t 4)
  .skip
  (.seq (.ops [⟨(some 28), 30, .bin .eql (.t 3) (.c (.s ⟨#[111, 114]⟩)), none, []⟩, ⟨(some 4), 6, .mv (.t 28), none, []⟩])
  (.cond (.t 4)
  .skip
  (.seq (.ops [⟨(some 29), 31, .bin .eql (.t 3) (.c (.s ⟨#[110, 111, 116]⟩)), none, []⟩, ⟨(some 4), 6, .mv (.t 29), none, []⟩])
  (.cond (.t 4)
  .skip
  (.seq (.ops [⟨(some 30), 32, .bin .eql (.t 3) (.c (.s ⟨#[105, 110, 116]⟩)), none, []⟩, ⟨(some 4), 6, .mv (.t 30), none, []⟩])
  (.cond (.t 4)
  .skip
  (.seq (.ops [⟨(some 31), 33, .bin .eql (.t 3) (.c (.s ⟨#[114, 101, 97, 108]⟩)), none, []⟩, ⟨(some 4), 6, .mv (.t 31), none, []⟩])
  (.cond (.t 4)
  .skip
  (.seq (.ops [⟨(some 32), 34, .bin .eql (.t 3) (.c (.s ⟨#[112, 97, 105, 114]⟩)), none, []⟩, ⟨(some 4), 6, .mv (.t 32), none, []⟩])
  (.cond (.t 4)
  .skip
  (.seq (.ops [⟨(some 33), 35, .bin .eql (.t 3) (.c (.s ⟨#[98, 111, 111, 108]⟩)), none, []⟩, ⟨(some 4), 6, .mv (.t 33), none, []⟩])
  (.cond (.t 4)
  .skip
  (.seq (.ops [⟨(some 34), 36, .bin .eql (.t 3) (.c (.s ⟨#[114, 101]⟩)), none, []⟩, ⟨(some 4), 6, .mv (.t 34), none, []⟩])
  (.cond (.t 4)
  .skip
  (.seq (.ops [⟨(some 35), 37, .bin .eql (.t 3) (.c (.s ⟨#[105, 109]⟩)), none, []⟩, ⟨(some 4), 6, .mv (.t 35), none, []⟩])
  (.cond (.t 4)
  .skip
  (.ops [⟨(some 36), 38, .bin .eql (.t 3) (.c (.s ⟨#[115, 105, 122, 101]⟩)), none, []⟩, ⟨(some 4), 6, .mv (.t 36), none, []⟩])))))))))))))))))))))))))))))))))))))))))))))))))))))))))))))))
  (.cond (.t 4)
  (.seq (.ops [⟨(some 2), 4, .mv (.c (.b true)), none, []⟩])
  .ret)
  .skip))))
  (.seq (.ops [⟨(some 2), 4, .mv (.c (.b false)), none, []⟩])
  .ret)))
theorem k53 : compCode Try.prog Try.f53.ntmps Try.f53.body.get! = some c53 := by kernel_rfl
theorem r53 : resTmps Try.prog Try.f53.results.toList = some [.tmp 2] := by kernel_rfl
/- spec.NameOk -/
def c102 : TCode := (.seq (.ops [⟨(some 2), 4, .mv (.c (.b false)), none, []⟩])
  (.seq (.seq (.ops [⟨(some 4), 6, .mv (.t 0), none, []⟩, ⟨(some 5), 7, .len true (.t 4), none, []⟩, ⟨(some 6), 8, .call 71 [((.t 5), 0), ((.c (.i .i64 1)), 0), ((.c (.i .i64 12)), 0)], none, []⟩, ⟨(some 7), 9, .un .not (.t 6), none, []⟩])
  (.cond (.t 7)
  (.seq (.ops [⟨(some 2), 4, .mv (.c (.b false)), none, []⟩])
  .ret)
  .skip))
  (.seq (.seq (.ops [⟨(some 3), 5, .mv (.c (.i .i64 0)), none, []⟩])
  (.block 0 (.loop (.seq (.seq (.ops [⟨(some 8), 10, .mv (.t 3), none, []⟩, ⟨(some 9), 11, .mv (.t 0), none, []⟩, ⟨(some 10), 12, .len true (.t 9), none, []⟩, ⟨(some 11), 13, .bin .lss (.t 8) (.t 10), none, []⟩])
  (.cond (.t 11)
  .skip
  (.exit 0)))
  (.seq (.block 1 (.seq (.ops [⟨(some 14), 16, .mv (.t 0), none, []⟩, ⟨(some 15), 17, .mv (.t 3), none, []⟩, ⟨(some 16), 18, .ix (.t 14) (.t 15), none, []⟩, ⟨(some 17), 19, .call 142 [((.t 16), 0)], none, []⟩, ⟨(some 18), 20, .un .not (.t 17), none, []⟩])
  (.cond (.t 18)
  (.seq (.ops [⟨(some 2), 4, .mv (.c (.b false)), none, []⟩])
  .ret)
  .skip)))
  (.ops [⟨(some 12), 14, .mv (.t 3), none, []⟩, ⟨(some 13), 15, .bin .add (.t 12) (.c (.i .i64 1)), none, []⟩, ⟨(some 3), 5, .mv (.t 13), none, []⟩]))))))
  (.seq (.ops [⟨(some 19), 21, .mv (.t 0), none, []⟩, ⟨(some 20), 22, .call 143 [((.t 19), 0)], none, []⟩, ⟨(some 21), 23, .un .not (.t 20), none, []⟩, ⟨(some 2), 4, .mv (.t 21), none, []⟩])
  .ret))))
theorem k102 : compCode Try.prog Try.f102.ntmps Try.f102.body.get! = some c102 := by kernel_rfl
theorem r102 : resTmps Try.prog Try.f102.results.toList = some [.tmp 2] := by kernel_rfl
/- impl.NameOk -/
def c54 : TCode := (.seq (.ops [⟨(some 2), 4, .mv (.c (.b false)), none, []⟩])
  (.seq (.seq (.ops [⟨(some 3), 5, .mv (.c (.i .i64 0)), none, []⟩])
  (.block 0 (.loop (.seq (.seq (.ops [⟨(some 4), 6, .mv (.t 3), none, []⟩, ⟨(some 5), 7, .mv (.t 0), none, []⟩, ⟨(some 6), 8, .len true (.t 5), none, []⟩, ⟨(some 7), 9, .bin .lss (.t 4) (.t 6), none, []⟩])
  (.cond (.t 7)
  .skip
  (.exit 0)))
  (.seq (.block 1 (.seq (.ops [⟨(some 10), 12, .mv (.t 0), none, []⟩, ⟨(some 11), 13, .mv (.t 3), none, []⟩, ⟨(some 12), 14, .ix (.t 10) (.t 11), none, []⟩, ⟨(some 13), 15, .call 105 [((.t 12), 0)], none, []⟩, ⟨(some 14), 16, .un .not (.t 13), none, []⟩])
  (.cond (.t 14)
  (.seq (.ops [⟨(some 2), 4, .mv (.c (.b false)), none, []⟩])
  .ret)
  .skip)))
  (.ops [⟨(some 8), 10, .mv (.t 3), none, []⟩, ⟨(some 9), 11, .bin .add (.t 8) (.c (.i .i64 1)), none, []⟩, ⟨(some 3), 5, .mv (.t 9), none, []⟩]))))))
  (.seq (.ops [⟨(some 15), 17, .mv (.t 0), none, []⟩, ⟨(some 16), 18, .len true (.t 15), none, []⟩, ⟨(some 17), 19, .call 74 [((.t 16), 0), ((.c (.i .i64 1)), 0), ((.c (.i .i64 12)), 0)], none, []⟩, ⟨(some 18), 20, .mv (.t 17), none, []⟩, ⟨(some 19), 21, .mv (.t 0), (some (18, true)), []⟩, ⟨(some 20), 22, .call 53 [((.t 19), 0)], (some (18, true)), []⟩, ⟨(some 21), 23, .un .not (.t 20), (some (18, true)), []⟩, ⟨(some 22), 24, .pick (.t 18) (.t 21) (.c (.b false)), none, []⟩, ⟨(some 2), 4, .mv (.t 22), none, []⟩])
  .ret)))
theorem k54 : compCode Try.prog Try.f54.ntmps Try.f54.body.get! = some c54 := by kernel_rfl
theorem r54 : resTmps Try.prog Try.f54.results.toList = some [.tmp 2] := by kernel_rfl
/- laws.szDecl -/
def c153 : TCode := (.seq (.ops [⟨(some 2), 4, .box 2 (.t 0), none, []⟩, ⟨(some 4), 6, .mv (.c (.i .i64 0)), none, []⟩])
  (.seq (.ops [⟨(some 5), 7, .mv (.t 1), none, []⟩, ⟨(some 6), 8, .faddr 0 1 (.t 2), none, []⟩, ⟨(some 7), 9, .load false 1 (.t 6), none, []⟩, ⟨(some 8), 10, .len true (.t 7), none, []⟩, ⟨(some 9), 11, .bin .sub (.t 5) (.t 8), none, []⟩, ⟨(some 1), 3, .mv (.t 9), none, []⟩])
  (.seq (.seq (.ops [⟨(some 10), 12, .mv (.t 1), none, []⟩, ⟨(some 11), 13, .bin .lss (.t 10) (.c (.i .i64 0)), none, []⟩])
  (.cond (.t 11)
  (.seq (.ops [⟨(some 4), 6, .mv (.c (.i .i64 (-1))), none, []⟩])
  .ret)
  .skip))
  (.seq (.ops [⟨(some 12), 14, .mv (.t 1), none, []⟩, ⟨(some 4), 6, .mv (.t 12), none, []⟩])
  .ret))))
theorem k153 : compCode Try.prog Try.f153.ntmps Try.f153.body.get! = some c153 := by kernel_rfl
theorem r153 : resTmps Try.prog Try.f153.results.toList = some [.tmp 4] := by kernel_rfl
/- laws.szDeclS -/
def c120 : TCode := (.seq (.ops [⟨(some 4), 6, .mv (.c (.i .i64 0)), none, []⟩])
  (.seq (.ops [⟨(some 6), 8, .mv (.t 1), none, []⟩, ⟨(some 7), 9, .mv (.t 0), none, []⟩, ⟨(some 8), 10, .len false (.t 7), none, []⟩, ⟨(some 9), 11, .bin .sub (.t 6) (.t 8), none, []⟩, ⟨(some 1), 3, .mv (.t 9), none, []⟩])
  (.seq (.seq (.ops [⟨(some 10), 12, .mv (.t 1), none, []⟩, ⟨(some 11), 13, .bin .lss (.t 10) (.c (.i .i64 0)), none, []⟩])
  (.cond (.t 11)
  (.seq (.ops [⟨(some 4), 6, .mv (.c (.i .i64 (-1))), none, []⟩])
  .ret)
  .skip))
  (.seq (.seq (.ops [⟨(some 5), 7, .mv (.c (.i .i64 0)), none, []⟩])
  (.block 0 (.loop (.seq (.seq (.ops [⟨(some 12), 14, .mv (.t 5), none, []⟩, ⟨(some 13), 15, .mv (.t 0), none, []⟩, ⟨(some 14), 16, .len false (.t 13), none, []⟩, ⟨(some 15), 17, .bin .lss (.t 12) (.t 14), none, []⟩])
  (.cond (.t 15)
  .skip
  (.exit 0)))
  (.seq (.block 1 (.seq (.ops [⟨(some 18), 20, .mv (.t 0), none, []⟩, ⟨(some 19), 21, .mv (.t 5), none, []⟩, ⟨(some 20), 22, .iaddr 2 (.t 18) (.t 19), none, []⟩, ⟨(some 21), 23, .load true 2 (.t 20), none, []⟩, ⟨(some 22), 24, .mv (.t 1), none, []⟩, ⟨(some 23), 25, .call 153 [((.t 21), 0), ((.t 22), 0)], none, []⟩, ⟨(some 1), 3, .mv (.t 23), none, []⟩])
  (.seq (.ops [⟨(some 24), 26, .mv (.t 1), none, []⟩, ⟨(some 25), 27, .bin .lss (.t 24) (.c (.i .i64 0)), none, []⟩])
  (.cond (.t 25)
  (.seq (.ops [⟨(some 4), 6, .mv (.c (.i .i64 (-1))), none, []⟩])
  .ret)
  .skip))))
  (.ops [⟨(some 16), 18, .mv (.t 5), none, []⟩, ⟨(some 17), 19, .bin .add (.t 16) (.c (.i .i64 1)), none, []⟩, ⟨(some 5), 7, .mv (.t 17), none, []⟩]))))))
  (.seq (.ops [⟨(some 26), 28, .mv (.t 1), none, []⟩, ⟨(some 4), 6, .mv (.t 26), none, []⟩])
  .ret)))))
theorem k120 : compCode Try.prog Try.f120.ntmps Try.f120.body.get! = some c120 := by kernel_rfl
theorem r120 : resTmps Try.prog Try.f120.results.toList = some [.tmp 4] := by kernel_rfl
/- laws.szReg -/
def c65 : TCode := (.seq (.ops [⟨(some 2), 4, .box 3 (.t 0), none, []⟩, ⟨(some 4), 6, .mv (.c (.i .i64 0)), none, []⟩])
  (.seq (.ops [⟨(some 5), 7, .faddr 0 1 (.t 2), none, []⟩, ⟨(some 6), 8, .load false 1 (.t 5), none, []⟩, ⟨(some 7), 9, .mv (.t 1), none, []⟩, ⟨(some 8), 10, .call 120 [((.t 6), 0), ((.t 7), 0)], none, []⟩, ⟨(some 1), 3, .mv (.t 8), none, []⟩])
  (.seq (.seq (.ops [⟨(some 9), 11, .mv (.t 1), none, []⟩, ⟨(some 10), 12, .bin .lss (.t 9) (.c (.i .i64 0)), none, []⟩])
  (.cond (.t 10)
  (.seq (.ops [⟨(some 4), 6, .mv (.c (.i .i64 (-1))), none, []⟩])
  .ret)
  .skip))
  (.seq (.ops [⟨(some 11), 13, .faddr 1 1 (.t 2), none, []⟩, ⟨(some 12), 14, .load false 1 (.t 11), none, []⟩, ⟨(some 13), 15, .mv (.t 1), none, []⟩, ⟨(some 14), 16, .call 120 [((.t 12), 0), ((.t 13), 0)], none, []⟩, ⟨(some 1), 3, .mv (.t 14), none, []⟩])
  (.seq (.seq (.ops [⟨(some 15), 17, .mv (.t 1), none, []⟩, ⟨(some 16), 18, .bin .lss (.t 15) (.c (.i .i64 0)), none, []⟩])
  (.cond (.t 16)
  (.seq (.ops [⟨(some 4), 6, .mv (.c (.i .i64 (-1))), none, []⟩])
  .ret)
  .skip))
  (.seq (.ops [⟨(some 17), 19, .faddr 2 1 (.t 2), none, []⟩, ⟨(some 18), 20, .load false 1 (.t 17), none, []⟩, ⟨(some 19), 21, .mv (.t 1), none, []⟩, ⟨(some 20), 22, .call 120 [((.t 18), 0), ((.t 19), 0)], none, []⟩, ⟨(some 1), 3, .mv (.t 20), none, []⟩])
  (.seq (.seq (.ops [⟨(some 21), 23, .mv (.t 1), none, []⟩, ⟨(some 22), 24, .bin .lss (.t 21) (.c (.i .i64 0)), none, []⟩])
  (.cond (.t 22)
  (.seq (.ops [⟨(some 4), 6, .mv (.c (.i .i64 (-1))), none, []⟩])
  .ret)
  .skip))
  (.seq (.ops [⟨(some 23), 25, .mv (.t 1), none, []⟩, ⟨(some 4), 6, .mv (.t 23), none, []⟩])
  .ret))))))))
theorem k65 : compCode Try.prog Try.f65.ntmps Try.f65.body.get! = some c65 := by kernel_rfl
theorem r65 : resTmps Try.prog Try.f65.results.toList = some [.tmp 4] := by kernel_rfl
/- laws.toDecl -/
def c154 : TCode := (.seq (.ops [⟨(some 1), 3, .box 2 (.t 0), none, []⟩, ⟨(some 2), 4, .box 2 (.c (.ag [(.s ⟨#[]⟩), (.i .i64 0)])), none, []⟩])
  (.seq (.ops [⟨(some 3), 5, .box 2 (.c (.ag [(.s ⟨#[]⟩), (.i .i64 0)])), none, []⟩])
  (.seq (.ops [⟨(some 4), 6, .faddr 0 1 (.t 1), none, []⟩, ⟨(some 5), 7, .load false 1 (.t 4), none, []⟩, ⟨(some 6), 8, .faddr 0 1 (.t 3), none, []⟩, ⟨none, 1002003, .store 1 (.t 6) (.t 5), none, []⟩])
  (.seq (.ops [⟨(some 7), 9, .faddr 1 1 (.t 1), none, []⟩, ⟨(some 8), 10, .load false 1 (.t 7), none, []⟩, ⟨(some 9), 11, .faddr 1 1 (.t 3), none, []⟩, ⟨none, 1003003, .store 1 (.t 9) (.t 8), none, []⟩])
  (.seq (.ops [⟨(some 10), 12, .load true 2 (.t 3), none, []⟩, ⟨none, 1004001, .store 2 (.t 2) (.t 10), none, []⟩])
  .ret)))))
theorem k154 : compCode Try.prog Try.f154.ntmps Try.f154.body.get! = some c154 := by kernel_rfl
theorem r154 : resTmps Try.prog Try.f154.results.toList = some [.cell 2 true 2] := by kernel_rfl
/- laws.toDeclS -/
def c122 : TCode := (.seq (.ops [⟨(some 2), 4, .mv (.c (.sl true 2 [])), none, []⟩])
  (.seq (.ops [⟨(some 5), 7, .mv (.t 0), none, []⟩, ⟨(some 6), 8, .len false (.t 5), none, []⟩, ⟨(some 7), 9, .mkslice 2 24 [(.s ⟨#[]⟩), (.i .i64 0)] (.t 6) (.t 6), none, []⟩, ⟨(some 3), 5, .mv (.t 7), none, []⟩])
  (.seq (.seq (.ops [⟨(some 4), 6, .mv (.c (.i .i64 0)), none, []⟩])
  (.block 0 (.loop (.seq (.seq (.ops [⟨(some 8), 10, .mv (.t 4), none, []⟩, ⟨(some 9), 11, .mv (.t 0), none, []⟩, ⟨(some 10), 12, .len false (.t 9), none, []⟩, ⟨(some 11), 13, .bin .lss (.t 8) (.t 10), none, []⟩])
  (.cond (.t 11)
  .skip
  (.exit 0)))
  (.seq (.block 1 (.ops [⟨(some 14), 16, .mv (.t 3), none, []⟩, ⟨(some 15), 17, .mv (.t 4), none, []⟩, ⟨(some 16), 18, .mv (.t 0), none, []⟩, ⟨(some 17), 19, .mv (.t 4), none, []⟩, ⟨(some 18), 20, .iaddr 2 (.t 16) (.t 17), none, []⟩, ⟨(some 19), 21, .load true 2 (.t 18), none, []⟩, ⟨(some 20), 22, .call 154 [((.t 19), 0)], none, []⟩, ⟨(some 21), 23, .iaddr 2 (.t 14) (.t 15), none, []⟩, ⟨none, 1005008, .store 2 (.t 21) (.t 20), none, []⟩]))
  (.ops [⟨(some 12), 14, .mv (.t 4), none, []⟩, ⟨(some 13), 15, .bin .add (.t 12) (.c (.i .i64 1)), none, []⟩, ⟨(some 4), 6, .mv (.t 13), none, []⟩]))))))
  (.seq (.ops [⟨(some 22), 24, .mv (.t 3), none, []⟩, ⟨(some 2), 4, .mv (.t 22), none, []⟩])
  .ret))))
theorem k122 : compCode Try.prog Try.f122.ntmps Try.f122.body.get! = some c122 := by kernel_rfl
theorem r122 : resTmps Try.prog Try.f122.results.toList = some [.tmp 2] := by kernel_rfl
/- laws.toReg -/
def c67 : TCode := (.seq (.ops [⟨(some 1), 3, .box 3 (.t 0), none, []⟩, ⟨(some 2), 4, .box 3 (.c (.ag [(.sl true 2 []), (.sl true 2 []), (.sl true 2 [])])), none, []⟩])
  (.seq (.ops [⟨(some 3), 5, .box 3 (.c (.ag [(.sl true 2 []), (.sl true 2 []), (.sl true 2 [])])), none, []⟩])
  (.seq (.ops [⟨(some 4), 6, .faddr 0 1 (.t 1), none, []⟩, ⟨(some 5), 7, .load false 1 (.t 4), none, []⟩, ⟨(some 6), 8, .call 122 [((.t 5), 0)], none, []⟩, ⟨(some 7), 9, .faddr 0 1 (.t 3), none, []⟩, ⟨none, 1002004, .store 1 (.t 7) (.t 6), none, []⟩])
  (.seq (.ops [⟨(some 8), 10, .faddr 1 1 (.t 1), none, []⟩, ⟨(some 9), 11, .load false 1 (.t 8), none, []⟩, ⟨(some 10), 12, .call 122 [((.t 9), 0)], none, []⟩, ⟨(some 11), 13, .faddr 1 1 (.t 3), none, []⟩, ⟨none, 1003004, .store 1 (.t 11) (.t 10), none, []⟩])
  (.seq (.ops [⟨(some 12), 14, .faddr 2 1 (.t 1), none, []⟩, ⟨(some 13), 15, .load false 1 (.t 12), none, []⟩, ⟨(some 14), 16, .call 122 [((.t 13), 0)], none, []⟩, ⟨(some 15), 17, .faddr 2 1 (.t 3), none, []⟩, ⟨none, 1004004, .store 1 (.t 15) (.t 14), none, []⟩])
  (.seq (.ops [⟨(some 16), 18, .load true 3 (.t 3), none, []⟩, ⟨none, 1005001, .store 3 (.t 2) (.t 16), none, []⟩])
  .ret))))))
theorem k67 : compCode Try.prog Try.f67.ntmps Try.f67.body.get! = some c67 := by kernel_rfl
theorem r67 : resTmps Try.prog Try.f67.results.toList = some [.cell 2 true 3] := by kernel_rfl
/- laws.eqDecl -/
def c155 : TCode := (.seq (.ops [⟨(some 2), 4, .box 2 (.t 0), none, []⟩, ⟨(some 3), 5, .box 2 (.t 1), none, []⟩, ⟨(some 4), 6, .mv (.c (.b false)), none, []⟩])
  (.seq (.seq (.ops [⟨(some 5), 7, .faddr 0 1 (.t 2), none, []⟩, ⟨(some 6), 8, .load false 1 (.t 5), none, []⟩, ⟨(some 7), 9, .faddr 0 1 (.t 3), none, []⟩, ⟨(some 8), 10, .load false 1 (.t 7), none, []⟩, ⟨(some 9), 11, .bin .neq (.t 6) (.t 8), none, []⟩])
  (.cond (.t 9)
  (.seq (.ops [⟨(some 4), 6, .mv (.c (.b false)), none, []⟩])
  .ret)
  .skip))
  (.seq (.seq (.ops [⟨(some 10), 12, .faddr 1 1 (.t 2), none, []⟩, ⟨(some 11), 13, .load false 1 (.t 10), none, []⟩, ⟨(some 12), 14, .faddr 1 1 (.t 3), none, []⟩, ⟨(some 13), 15, .load false 1 (.t 12), none, []⟩, ⟨(some 14), 16, .bin .neq (.t 11) (.t 13), none, []⟩])
  (.cond (.t 14)
  (.seq (.ops [⟨(some 4), 6, .mv (.c (.b false)), none, []⟩])
  .ret)
  .skip))
  (.seq (.ops [⟨(some 4), 6, .mv (.c (.b true)), none, []⟩])
  .ret))))
theorem k155 : compCode Try.prog Try.f155.ntmps Try.f155.body.get! = some c155 := by kernel_rfl
theorem r155 : resTmps Try.prog Try.f155.results.toList = some [.tmp 4] := by kernel_rfl
/- laws.eqDeclS -/
def c125 : TCode := (.seq (.ops [⟨(some 4), 6, .mv (.c (.b false)), none, []⟩])
  (.seq (.seq (.ops [⟨(some 6), 8, .mv (.t 0), none, []⟩, ⟨(some 7), 9, .len false (.t 6), none, []⟩, ⟨(some 8), 10, .mv (.t 1), none, []⟩, ⟨(some 9), 11, .len false (.t 8), none, []⟩, ⟨(some 10), 12, .bin .neq (.t 7) (.t 9), none, []⟩])
  (.cond (.t 10)
  (.seq (.ops [⟨(some 4), 6, .mv (.c (.b false)), none, []⟩])
  .ret)
  .skip))
  (.seq (.seq (.ops [⟨(some 5), 7, .mv (.c (.i .i64 0)), none, []⟩])
  (.block 0 (.loop (.seq (.seq (.ops [⟨(some 11), 13, .mv (.t 5), none, []⟩, ⟨(some 12), 14, .mv (.t 0), none, []⟩, ⟨(some 13), 15, .len false (.t 12), none, []⟩, ⟨(some 14), 16, .bin .lss (.t 11) (.t 13), none, []⟩])
  (.cond (.t 14)
  .skip
  (.exit 0)))
  (.seq (.block 1 (.seq (.draw [⟨(some 17), 19, .mv (.t 0), none, []⟩, ⟨(some 18), 20, .mv (.t 5), none, []⟩, ⟨(some 19), 21, .iaddr 2 (.t 17) (.t 18), none, []⟩, ⟨(some 20), 22, .load true 2 (.t 19), none, []⟩, ⟨(some 21), 23, .mv (.t 1), none, []⟩, ⟨(some 22), 24, .mv (.t 5), none, []⟩, ⟨(some 23), 25, .iaddr 2 (.t 21) (.t 22), none, []⟩, ⟨(some 24), 26, .load true 2 (.t 23), none, []⟩, ⟨(some 25), 27, .call 155 [((.t 20), 0), ((.t 24), 0)], none, []⟩, ⟨(some 26), 28, .un .not (.t 25), none, []⟩])
  (.cond (.t 26)
  (.seq (.ops [⟨(some 4), 6, .mv (.c (.b false)), none, []⟩])
  .ret)
  .skip)))
  (.ops [⟨(some 15), 17, .mv (.t 5), none, []⟩, ⟨(some 16), 18, .bin .add (.t 15) (.c (.i .i64 1)), none, []⟩, ⟨(some 5), 7, .mv (.t 16), none, []⟩]))))))
  (.seq (.ops [⟨(some 4), 6, .mv (.c (.b true)), none, []⟩])
  .ret))))
theorem k125 : compCode Try.prog Try.f125.ntmps Try.f125.body.get! = some c125 := by kernel_rfl
theorem r125 : resTmps Try.prog Try.f125.results.toList = some [.tmp 4] := by kernel_rfl
/- laws.eqReg -/
def c69 : TCode := (.seq (.ops [⟨(some 2), 4, .box 3 (.t 0), none, []⟩, ⟨(some 3), 5, .box 3 (.t 1), none, []⟩, ⟨(some 4), 6, .mv (.c (.b false)), none, []⟩])
  (.seq (.seq (.ops [⟨(some 5), 7, .faddr 0 1 (.t 2), none, []⟩, ⟨(some 6), 8, .load false 1 (.t 5), none, []⟩, ⟨(some 7), 9, .faddr 0 1 (.t 3), none, []⟩, ⟨(some 8), 10, .load false 1 (.t 7), none, []⟩, ⟨(some 9), 11, .call 125 [((.t 6), 0), ((.t 8), 0)], none, []⟩, ⟨(some 10), 12, .un .not (.t 9), none, []⟩])
  (.cond (.t 10)
  (.seq (.ops [⟨(some 4), 6, .mv (.c (.b false)), none, []⟩])
  .ret)
  .skip))
  (.seq (.seq (.ops [⟨(some 11), 13, .faddr 1 1 (.t 2), none, []⟩, ⟨(some 12), 14, .load false 1 (.t 11), none, []⟩, ⟨(some 13), 15, .faddr 1 1 (.t 3), none, []⟩, ⟨(some 14), 16, .load false 1 (.t 13), none, []⟩, ⟨(some 15), 17, .call 125 [((.t 12), 0), ((.t 14), 0)], none, []⟩, ⟨(some 16), 18, .un .not (.t 15), none, []⟩])
  (.cond (.t 16)
  (.seq (.ops [⟨(some 4), 6, .mv (.c (.b false)), none, []⟩])
  .ret)
  .skip))
  (.seq (.seq (.ops [⟨(some 17), 19, .faddr 2 1 (.t 2), none, []⟩, ⟨(some 18), 20, .load false 1 (.t 17), none, []⟩, ⟨(some 19), 21, .faddr 2 1 (.t 3), none, []⟩, ⟨(some 20), 22, .load false 1 (.t 19), none, []⟩, ⟨(some 21), 23, .call 125 [((.t 18), 0), ((.t 20), 0)], none, []⟩, ⟨(some 22), 24, .un .not (.t 21), none, []⟩])
  (.cond (.t 22)
  (.seq (.ops [⟨(some 4), 6, .mv (.c (.b false)), none, []⟩])
  .ret)
  .skip))
  (.seq (.ops [⟨(some 4), 6, .mv (.c (.b true)), none, []⟩])
  .ret)))))
theorem k69 : compCode Try.prog Try.f69.ntmps Try.f69.body.get! = some c69 := by kernel_rfl
theorem r69 : resTmps Try.prog Try.f69.results.toList = some [.tmp 4] := by kernel_rfl

@[simp] def sT (s : ByteArray) : List TV := [.s s]
@[simp] theorem fzL_sT (s : ByteArray) : fzL (sT s) = sT s := rfl
@[simp] theorem fzLL_sT (l : List (ByteArray)) : fzLL (l.map sT) = l.map sT := fzLL_map fzL_sT l
@[simp] theorem noROLL_sT (l : List (ByteArray)) : noROLL (l.map sT) = true := noROLL_map (fun _ => rfl) l
@[simp] theorem noref_sT (l : List (ByteArray)) : (l.map sT).all (·.all noref) = true := noref_map (fun _ => rfl) l
@[simp] theorem srcT_sT (H : Hp) (z : Nat) (l : List (ByteArray)) : srcT H (.sl false z (l.map sT)) = some (z, l.map sT, H, []) := by simp only [srcT, noref_sT, if_true]
abbrev DeclP := ByteArray × Int
@[simp] def dT (d : ByteArray × Int) : List TV := [.s d.1, .i .i64 d.2]
@[simp] theorem fzL_dT (d : ByteArray × Int) : fzL (dT d) = dT d := rfl
@[simp] theorem fzLL_dT (l : List (ByteArray × Int)) : fzLL (l.map dT) = l.map dT := fzLL_map fzL_dT l
@[simp] theorem noROLL_dT (l : List (ByteArray × Int)) : noROLL (l.map dT) = true := noROLL_map (fun _ => rfl) l
@[simp] theorem noref_dT (l : List (ByteArray × Int)) : (l.map dT).all (·.all noref) = true := noref_map (fun _ => rfl) l
@[simp] theorem srcT_dT (H : Hp) (z : Nat) (l : List (ByteArray × Int)) : srcT H (.sl false z (l.map dT)) = some (z, l.map dT, H, []) := by simp only [srcT, noref_dT, if_true]

instance memS (a : ByteArray) (l : List ByteArray) : Decidable (a ∈ l) := decidable_of_iff (l.any (fun x => decide (x = a)) = true) (by simp)
def lettP (n : Int) : Prop := (97 ≤ n ∧ n ≤ 122) ∨ (65 ≤ n ∧ n ≤ 90)
instance (n : Int) : Decidable (lettP n) := by unfold lettP; infer_instance
theorem w142 (n : Int) : Contract Try.prog false 142 [.ro] [.i .u8 n] [.b (decide (lettP n))] [] := by
  refine mk_contract [] Try.func142 (c := Try.f142.body.get!) (by kernel_rfl) k142 r142 (of_decide_eq_true rfl) fun _ => ?_
  unfold c142; simp
  by_cases h1 : 97 ≤ n <;> by_cases h2 : n ≤ 122 <;> by_cases h3 : 65 ≤ n <;> by_cases h4 : n ≤ 90 <;> simp [lettP, h1, h2, h3, h4]
theorem w105 (n : Int) : Contract Try.prog false 105 [.ro] [.i .u8 n] [.b (decide (lettP n))] [] := by
  refine mk_contract [] Try.func105 (c := Try.f105.body.get!) (by kernel_rfl) k105 r105 (of_decide_eq_true rfl) fun _ => ?_
  unfold c105; simp
  by_cases h1 : 97 ≤ n <;> by_cases h2 : n ≤ 122 <;> by_cases h3 : 65 ≤ n <;> by_cases h4 : n ≤ 90 <;> simp [lettP, h1, h2, h3, h4]

def words : List ByteArray := [⟨#[115, 121, 115, 116, 101, 109]⟩, ⟨#[102, 110]⟩, ⟨#[108, 101, 116]⟩, ⟨#[105, 102]⟩, ⟨#[101, 108, 115, 101]⟩, ⟨#[108, 111, 111, 112]⟩, ⟨#[101, 97, 99, 104]⟩, ⟨#[119, 105, 116, 104]⟩, ⟨#[119, 105, 116, 104, 111, 117, 116]⟩, ⟨#[101, 109, 105, 116]⟩, ⟨#[104, 101, 97, 114]⟩, ⟨#[97, 115]⟩, ⟨#[115, 112, 97, 119, 110]⟩, ⟨#[107, 105, 108, 108]⟩, ⟨#[112, 117, 116]⟩, ⟨#[100, 114, 111, 112]⟩, ⟨#[100, 111]⟩, ⟨#[114, 101, 116, 117, 114, 110]⟩, ⟨#[112, 105, 99, 107]⟩, ⟨#[111, 102]⟩, ⟨#[121, 101, 115]⟩, ⟨#[110, 111]⟩, ⟨#[97, 110, 100]⟩, ⟨#[111, 114]⟩, ⟨#[110, 111, 116]⟩, ⟨#[105, 110, 116]⟩, ⟨#[114, 101, 97, 108]⟩, ⟨#[112, 97, 105, 114]⟩, ⟨#[98, 111, 111, 108]⟩, ⟨#[114, 101]⟩, ⟨#[105, 109]⟩, ⟨#[115, 105, 122, 101]⟩]
theorem words_len : words.length = 32 := rfl
theorem w160  : Contract Try.prog false 160 [] [] [.sl true 1 (words.map sT)] [] := by
  refine mk_contract [] Try.func160 (c := Try.f160.body.get!) (by kernel_rfl) k160 r160 (of_decide_eq_true rfl) fun _ => ?_
  unfold c160; simp [words]
theorem w143 (a : ByteArray) : Contract Try.prog false 143 [.ro] [.s a] [.b (decide (a ∈ words))] [] := by
  refine mk_contract [] Try.func143 (c := Try.f143.body.get!) (by kernel_rfl) k143 r143 (of_decide_eq_true rfl) fun _ => ?_
  unfold c143; simp
  refine callW_ms [] ?_
  simp
  refine callX_of (w160 ) (by simp) ?_
  simp
  have hwl := words_len
  generalize words = W at hwl
  refine twp_for W.length (fun j s => s.t 0 = .s a ∧ s.t 3 = .rf [(7, 0)] 0 W.length ∧ s.t 4 = .i .i64 j ∧ a ∉ W.take j ∧ s.H = lk [(1, []), (7, [.sl true 1 (W.map sT)])]) [] (by simp) ?_ ?_
  · simp
  · rintro j s hj ⟨q0, q3, q4, hn, qH⟩
    rw [nf_of qH]
    simp [q0, q3, q4]
    refine ⟨fun hlt => ?_, fun hge => ?_⟩
    · have hw : IntKind.i64.wrap (j + 1) = j + 1 := wrap_id (by omega) (by omega)
      obtain ⟨x, hx⟩ := get_some hlt
      simp [hx, hw, q0, q3, q4]
      refine ⟨hlt, fun h => by subst h; exact List.mem_of_getElem? hx, fun h => ⟨hlt, ?_⟩⟩
      rw [take_snoc hx]; simp; exact ⟨hn, fun h2 => h h2.symm⟩
    · obtain rfl : j = W.length := by omega
      rw [List.take_of_length_le (Nat.le_refl _)] at hn
      exact hn
set_option maxRecDepth 100000 in
theorem w53 (a : ByteArray) : Contract Try.prog false 53 [.ro] [.s a] [.b (decide (a ∈ words))] [] := by
  refine mk_contract [] Try.func53 (c := Try.f53.body.get!) (by kernel_rfl) k53 r53 (of_decide_eq_true rfl) fun _ => ?_
  unfold c53; simp
  repeat (refine ⟨fun h => by simp [words, h], fun _ => ?_⟩)
  simp [words, *]

def allLet (a : ByteArray) (j : Nat) : Prop := ∀ i < j, ∀ b : UInt8, a[i]? = some b → lettP b.toNat
def nameP (a : ByteArray) : Prop := (1 ≤ a.size ∧ a.size ≤ 12) ∧ allLet a a.size ∧ a ∉ words
noncomputable instance (a : ByteArray) : Decidable (nameP a) := Classical.propDecidable _
theorem get_byte {a : ByteArray} {j : Nat} (h : j < a.size) : ∃ b : UInt8, a[j]? = some b := ⟨a[j], by simp [h]⟩
theorem allLet_succ {a : ByteArray} {j : Nat} {b : UInt8} (h : a[j]? = some b) : allLet a (j + 1) ↔ allLet a j ∧ lettP b.toNat := by
  constructor
  · intro h2; exact ⟨fun i hi => h2 i (by omega), h2 j (by omega) b h⟩
  · rintro ⟨h1, h2⟩ i hi c hc
    rcases Nat.lt_or_ge i j with h3 | h3
    · exact h1 i h3 c hc
    · obtain rfl : i = j := by omega
      rw [h] at hc; cases hc; exact h2
theorem w102 (a : ByteArray) : Contract Try.prog false 102 [.ro] [.s a] [.b (decide (nameP a))] [] := by
  refine mk_contract [] Try.func102 (c := Try.f102.body.get!) (by kernel_rfl) k102 r102 (of_decide_eq_true rfl) fun _ => ?_
  unfold c102; simp
  by_cases hr : 1 ≤ (a.size : Int) ∧ (a.size : Int) ≤ 12
  · refine callW_ms [.ro, .ro, .ro] ?_
    simp
    refine callX_of ((w71 _ _ _).t hr) (by simp) ?_
    simp
    refine twp_for a.size (fun j s => s.t 0 = .s a ∧ s.t 3 = .i .i64 j ∧ allLet a j ∧ s.H = lk [(1, [])]) [] (by simp) ?_ ?_
    · simp [allLet]
    · rintro j s hj ⟨q0, q3, hn, qH⟩
      rw [nf_of qH]
      simp [q0, q3]
      refine ⟨fun hlt => ?_, fun hge => ?_⟩
      · have hw : IntKind.i64.wrap (j + 1) = j + 1 := wrap_id (by omega) (by omega)
        obtain ⟨b, hb⟩ := get_byte hlt
        simp [hb, hw, q0, q3]
        by_cases hl : lettP b.toNat
        · refine callW_ms [.ro] ?_
          simp
          refine callX_of ((w142 b.toNat).t hl) (by simp) ?_
          simp [hw, q0, q3]
          exact ⟨hlt, (allLet_succ hb).2 ⟨hn, hl⟩⟩
        · refine callW_ms [.ro] ?_
          simp
          refine callX_of ((w142 b.toNat).f hl) (by simp) ?_
          simp [hw, q0, q3]
          intro h; exact hl (h.2.1 j hlt b hb)
      · obtain rfl : j = a.size := by omega
        have h1 : 1 ≤ a.size ∧ a.size ≤ 12 := by omega
        refine callW_ms [.ro] ?_
        simp
        refine callX_of (w143 a) (by simp) ?_
        simp [nameP, hn, h1]
  · refine callW_ms [.ro, .ro, .ro] ?_
    simp
    refine callX_of ((w71 _ _ _).f hr) (by simp) ?_
    simp
    intro h; exact hr (by have := h.1; omega)
theorem w54 (a : ByteArray) (ha : a.size ≤ 2^40) : Contract Try.prog false 54 [.ro] [.s a] [.b (decide (nameP a))] [] := by
  refine mk_contract [] Try.func54 (c := Try.f54.body.get!) (by kernel_rfl) k54 r54 (of_decide_eq_true rfl) fun _ => ?_
  unfold c54; simp
  refine twp_for a.size (fun j s => s.t 0 = .s a ∧ s.t 3 = .i .i64 j ∧ allLet a j ∧ s.H = lk [(1, [])]) [] (by simp) ?_ ?_
  · simp [allLet]
  · rintro j s hj ⟨q0, q3, hn, qH⟩
    rw [nf_of qH]
    simp [q0, q3]
    refine ⟨fun hlt => ?_, fun hge => ?_⟩
    · have hw : IntKind.i64.wrap (j + 1) = j + 1 := wrap_id (by omega) (by omega)
      obtain ⟨b, hb⟩ := get_byte hlt
      simp [hb, hw, q0, q3]
      by_cases hl : lettP b.toNat
      · refine callW_ms [.ro] ?_
        simp
        refine callX_of ((w105 b.toNat).t hl) (by simp) ?_
        simp [hw, q0, q3]
        exact ⟨hlt, (allLet_succ hb).2 ⟨hn, hl⟩⟩
      · refine callW_ms [.ro] ?_
        simp
        refine callX_of ((w105 b.toNat).f hl) (by simp) ?_
        simp [hw, q0, q3]
        intro h; exact hl (h.2.1 j hlt b hb)
    · obtain rfl : j = a.size := by omega
      by_cases hr : 1 ≤ (a.size : Int) ∧ (a.size : Int) ≤ 12
      · have h1 : 1 ≤ a.size ∧ a.size ≤ 12 := by omega
        refine callW_ms [.ro, .ro, .ro] ?_
        simp
        refine callX_of ((w74 _ _ _).t hr) (by simp) ?_
        simp [q0, q3]
        refine callW_ms [.ro] ?_
        simp
        refine callX_of (w53 a) (by simp) ?_
        simp [nameP, hn, h1]
      · have h1 : ¬ (1 ≤ a.size ∧ a.size ≤ 12) := by omega
        refine callW_ms [.ro, .ro, .ro] ?_
        simp
        refine callX_of ((w74 _ _ _).f hr) (by simp) ?_
        simp [q0, q3, nameP, h1]

def declT (d : ByteArray × Int) : TV := .ag [.s d.1, .i .i64 d.2]
def szDeclF (d : ByteArray × Int) (n : Int) : Int := szF n d.1.size
theorem w153 (d : ByteArray × Int) (n : Int) (hd : d.1.size < 2^63) (hn : n < 2^62) (hn0 : 0 ≤ n) : Contract Try.prog false 153 [.ro, .ro] [declT d, .i .i64 n] [.i .i64 (szDeclF d n)] [] := by
  refine mk_contract [] Try.func153 (c := Try.f153.body.get!) (by kernel_rfl) k153 r153 (of_decide_eq_true rfl) fun _ => ?_
  have hw : IntKind.i64.wrap (n - d.1.size) = n - d.1.size := wrap_id (by omega) (by omega)
  unfold c153; unfold declT szDeclF szF; simp [hw]
  omega
theorem szDecl_le (d : ByteArray × Int) (n : Int) (h : 0 ≤ n) : szDeclF d n ≤ n := szF_le _ _ (by omega) h
theorem w120 (l : List (ByteArray × Int)) (n : Int) (hl : l.length < 2^63) (hd : ∀ d ∈ l, d.1.size < 2^63) (hn : n < 2^62) (hn0 : 0 ≤ n) : Contract Try.prog false 120 [.ro, .ro] [.sl false 2 (l.map dT), .i .i64 n] [.i .i64 (szS szDeclF l n)] [] := by
  refine mk_contract [] Try.func120 (c := Try.f120.body.get!) (by kernel_rfl) k120 r120 (of_decide_eq_true rfl) fun _ => ?_
  have hw : IntKind.i64.wrap (n - l.length) = n - l.length := wrap_id (by omega) (by omega)
  unfold c120; simp [hw]
  refine ⟨fun h => ?_, fun h => ?_⟩
  · simp [szS, szF, h]
  have e : szF n l.length = n - l.length := by unfold szF; rw [if_neg (by omega)]
  have e2 : szS szDeclF l n = szA szDeclF l (n - l.length) := by unfold szS; rw [e, if_neg (by omega)]
  rw [e2]
  refine twp_for l.length (fun j s => s.t 0 = .sl false 2 (l.map dT) ∧ s.t 1 = .i .i64 (szA szDeclF (l.take j) (n - l.length)) ∧ s.t 5 = .i .i64 j ∧ 0 ≤ szA szDeclF (l.take j) (n - l.length) ∧ s.H = lk [(1, [])]) [] (by simp) ?_ ?_
  · simp; omega
  · rintro j s hj ⟨q0, q1, q5, h0, qH⟩
    rw [nf_of qH]
    simp [q0, q1, q5]
    refine ⟨fun hlt => ?_, fun hge => ?_⟩
    · have hw : IntKind.i64.wrap (j + 1) = j + 1 := wrap_id (by omega) (by omega)
      obtain ⟨x, hx⟩ := get_some hlt
      have hle := (szA_ok szDecl_le (l.take j) _ h0 (by omega)).1
      have hs : szA szDeclF (l.take (j + 1)) (n - l.length) = szDeclF x (szA szDeclF (l.take j) (n - l.length)) := by
        rw [take_snoc hx, szA_snoc, if_neg (by omega)]
      have hng : szDeclF x (szA szDeclF (l.take j) (n - l.length)) < 0 → szDeclF x (szA szDeclF (l.take j) (n - l.length)) = -1 := szF_neg _ _
      have hng2 := szA_take szDeclF l (n - l.length) (j + 1)
      rw [hs] at hng2
      generalize szA szDeclF (l.take j) (n - l.length) = m at *
      simp [hx, hw, q0, q1, q5]
      refine callW_ms [.ro, .ro] ?_
      simp [declT]
      refine callX_of (w153 x m (hd x (List.mem_of_getElem? hx)) (by omega) h0) (by simp) ?_
      simp [hw, q0, q1, q5]
      generalize szDeclF x m = m' at *
      refine ⟨fun h1 => (hng2 (hng h1)).symm, fun h1 => ⟨hlt, by rw [hs], by rw [hs]; omega⟩⟩
    · obtain rfl : j = l.length := by omega
      simp [q0, q1, q5]
theorem w154 (d : ByteArray × Int) : Contract Try.prog false 154 [.ro] [declT d] [declT d] [] := by
  refine mk_contract [] Try.func154 (c := Try.f154.body.get!) (by kernel_rfl) k154 r154 (of_decide_eq_true rfl) fun _ => ?_
  unfold c154; unfold declT; simp
theorem w122 (l : List (ByteArray × Int)) (hl : l.length ≤ 2^40) : Contract Try.prog false 122 [.ro] [.sl false 2 (l.map dT)] [.sl true 2 (l.map dT)] [] := by
  refine mk_contract [] Try.func122 (c := Try.f122.body.get!) (by kernel_rfl) k122 r122 (of_decide_eq_true rfl) fun _ => ?_
  unfold c122; simp
  refine ⟨by omega, ?_⟩
  refine twp_for l.length (fun j s => s.t 0 = .sl false 2 (l.map dT) ∧ s.t 3 = .rf [(9, 0)] 0 l.length ∧ s.t 4 = .i .i64 j ∧ s.H = lk [(1, []), (9, [.sl true 2 ((l.map dT).take j ++ List.replicate (l.length - j) [.s ⟨#[]⟩, .i .i64 0])])]) [] (by simp) ?_ ?_
  · simp
  · rintro j s hj ⟨q0, q3, q4, qH⟩
    rw [nf_of qH]
    simp [q0, q3, q4]
    refine ⟨fun hlt => ?_, fun hge => ?_⟩
    · have hw : IntKind.i64.wrap (j + 1) = j + 1 := wrap_id (by omega) (by omega)
      obtain ⟨x, hx⟩ := get_some hlt
      have hmin : min j l.length = j := by omega
      simp [hx, hw, q0, q3, q4]
      refine callW_ms [.ro] ?_
      simp [declT]
      refine callX_of (w154 x) (by simp) ?_
      simp [declT, hw, q0, q3, q4, rep_at hlt, mapsnoc hx, hmin]
      omega
    · obtain rfl : j = l.length := by omega
      simp [q0, q3, q4]
theorem w155 (d e : ByteArray × Int) : Contract Try.prog false 155 [.ro, .ro] [declT d, declT e] [.b (decide (d = e))] [] := by
  refine mk_contract [] Try.func155 (c := Try.f155.body.get!) (by kernel_rfl) k155 r155 (of_decide_eq_true rfl) fun _ => ?_
  unfold c155; unfold declT; simp
  exact ⟨fun h1 => ⟨fun h2 => Prod.ext h1 h2, fun h2 h3 => h2 (by rw [h3])⟩, fun h1 h2 => h1 (by rw [h2])⟩
theorem w125 (a b : List (ByteArray × Int)) (ha : a.length ≤ 2^40) (hb : b.length ≤ 2^40) : Contract Try.prog false 125 [.ro, .ro] [.sl false 2 (a.map dT), .sl false 2 (b.map dT)] [.b (decide (a = b))] [] := by
  refine mk_contract [] Try.func125 (c := Try.f125.body.get!) (by kernel_rfl) k125 r125 (of_decide_eq_true rfl) fun _ => ?_
  unfold c125; simp
  refine ⟨fun h => ?_, fun h => ?_⟩
  · refine twp_for a.length (fun j s => s.t 0 = .sl false 2 (a.map dT) ∧ s.t 1 = .sl false 2 (b.map dT) ∧ s.t 5 = .i .i64 j ∧ a.take j = b.take j ∧ s.H = lk [(1, [])]) [] (by simp) ?_ ?_
    · simp
    · rintro j s hj ⟨q0, q1, q5, hab, qH⟩
      rw [nf_of qH]
      simp [q0, q1, q5]
      refine ⟨fun hlt => ?_, fun hge => ?_⟩
      · have hw : IntKind.i64.wrap (j + 1) = j + 1 := wrap_id (by omega) (by omega)
        obtain ⟨x, hx⟩ := get_some hlt
        obtain ⟨y, hy⟩ := get_some (l := b) (j := j) (by omega)
        simp [hx, hy, hw, q0, q1, q5]
        by_cases hxy : x = y
        · refine callW_ms [.ro, .ro] ?_
          simp [declT]
          refine callX_of ((w155 x y).t hxy) (by simp) ?_
          simp [hw, q0, q1, q5]
          exact ⟨hlt, by rw [take_snoc hx, take_snoc hy, hab, hxy]⟩
        · refine callW_ms [.ro, .ro] ?_
          simp [declT]
          refine callX_of ((w155 x y).f hxy) (by simp) ?_
          simp [hw, q0, q1, q5]
          intro hab2; subst hab2; rw [hx] at hy; cases hy; exact absurd rfl hxy
      · obtain rfl : j = a.length := by omega
        rw [List.take_of_length_le (Nat.le_refl _), List.take_of_length_le (by omega)] at hab
        exact hab
  · rintro rfl; exact h rfl

/-- A Reg: its three lists. -/
def regR (c r e : List (ByteArray × Int)) : TV := .ag [.sl false 2 (c.map dT), .sl false 2 (r.map dT), .sl false 2 (e.map dT)]
def regO (c r e : List (ByteArray × Int)) : TV := .ag [.sl true 2 (c.map dT), .sl true 2 (r.map dT), .sl true 2 (e.map dT)]
theorem szDecl_neg (x : ByteArray × Int) (m : Int) (h : szDeclF x m < 0) : szDeclF x m = -1 := szF_neg _ _ h
def szRegF (c r e : List (ByteArray × Int)) (n : Int) : Int :=
  let a := szS szDeclF c n
  if a < 0 then -1 else
    let b := szS szDeclF r a
    if b < 0 then -1 else szS szDeclF e b
def bndD (l : List (ByteArray × Int)) : Prop := l.length < 2^63 ∧ ∀ d ∈ l, d.1.size < 2^63
def okD (k : Nat) (l : List (ByteArray × Int)) : Prop := l.length ≤ k ∧ ∀ d ∈ l, d.1.size ≤ k
theorem szS_okD {l : List (ByteArray × Int)} {n : Int} {k : Nat} (h0 : 0 ≤ n) (hk : n ≤ k) (h : ¬ szS szDeclF l n < 0) : 0 ≤ szS szDeclF l n ∧ szS szDeclF l n ≤ n ∧ okD k l := by
  obtain ⟨h1, h2, h3, h4⟩ := szS_lo szDecl_le h0 h
  refine ⟨h1, h2, by omega, fun d hd => ?_⟩
  obtain ⟨m, m1, m2, m3⟩ := h4 d hd
  have := (szF_pos (n := m) (k := d.1.size) m3).2
  omega
theorem szRegF_ok {c r e : List (ByteArray × Int)} {n : Int} {k : Nat} (h0 : 0 ≤ n) (hk : n ≤ k) (h : ¬ szRegF c r e n < 0) : 0 ≤ szRegF c r e n ∧ szRegF c r e n ≤ n ∧ okD k c ∧ okD k r ∧ okD k e := by
  simp only [szRegF] at h ⊢
  by_cases h1 : szS szDeclF c n < 0
  · simp [h1] at h
  · obtain ⟨a1, a2, a3⟩ := szS_okD h0 hk h1
    rw [if_neg h1] at h ⊢
    by_cases h2 : szS szDeclF r (szS szDeclF c n) < 0
    · simp [h2] at h
    · obtain ⟨b1, b2, b3⟩ := szS_okD a1 (by omega : szS szDeclF c n ≤ k) h2
      rw [if_neg h2] at h ⊢
      obtain ⟨c1, c2, c3⟩ := szS_okD b1 (by omega : szS szDeclF r (szS szDeclF c n) ≤ k) h
      exact ⟨c1, by omega, a3, b3, c3⟩
theorem w65 (c r e : List (ByteArray × Int)) (n : Int) (hc : bndD c) (hr : bndD r) (he : bndD e) (hn : n < 2^62) (hn0 : 0 ≤ n) : Contract Try.prog false 65 [.ro, .ro] [regR c r e, .i .i64 n] [.i .i64 (szRegF c r e n)] [] := by
  refine mk_contract [] Try.func65 (c := Try.f65.body.get!) (by kernel_rfl) k65 r65 (of_decide_eq_true rfl) fun _ => ?_
  unfold c65; unfold regR szRegF; simp
  refine callW_ms [.ro, .ro] ?_
  simp
  refine callX_of (w120 c n hc.1 hc.2 hn hn0) (by simp) ?_
  simp
  refine ⟨fun h => by intros; omega, fun h => ?_⟩
  obtain ⟨a1, a2, -⟩ := szS_okD (k := 2^62) hn0 (by omega) (by omega : ¬ szS szDeclF c n < 0)
  refine callW_ms [.ro, .ro] ?_
  simp
  refine callX_of (w120 r _ hr.1 hr.2 (by omega) h) (by simp) ?_
  simp
  rw [if_neg (by omega)]
  refine ⟨fun h2 => by intros; omega, fun h2 => ?_⟩
  obtain ⟨b1, b2, -⟩ := szS_okD (k := 2^62) h (by omega) (by omega : ¬ szS szDeclF r (szS szDeclF c n) < 0)
  refine callW_ms [.ro, .ro] ?_
  simp
  refine callX_of (w120 e _ he.1 he.2 (by omega) h2) (by simp) ?_
  simp
  refine ⟨fun h3 _ => (szS_neg szDecl_neg _ _ h3).symm, fun h3 h4 => by omega⟩
theorem w67 (c r e : List (ByteArray × Int)) (hc : c.length ≤ 2^40) (hr : r.length ≤ 2^40) (he : e.length ≤ 2^40) : Contract Try.prog false 67 [.ro] [regR c r e] [regO c r e] [] := by
  refine mk_contract [] Try.func67 (c := Try.f67.body.get!) (by kernel_rfl) k67 r67 (of_decide_eq_true rfl) fun _ => ?_
  unfold c67; unfold regR regO; simp
  refine callW_ms [.ro] ?_
  simp
  refine callX_of (w122 c hc) (by simp) ?_
  simp
  refine callW_ms [.ro] ?_
  simp
  refine callX_of (w122 r hr) (by simp) ?_
  simp
  refine callW_ms [.ro] ?_
  simp
  refine callX_of (w122 e he) (by simp) ?_
  simp
theorem w69 (c r e c' r' e' : List (ByteArray × Int)) (hc : c.length ≤ 2^40) (hr : r.length ≤ 2^40) (he : e.length ≤ 2^40) (hc' : c'.length ≤ 2^40) (hr' : r'.length ≤ 2^40) (he' : e'.length ≤ 2^40) : Contract Try.prog false 69 [.ro, .ro] [regR c r e, regR c' r' e'] [.b (decide (c = c' ∧ r = r' ∧ e = e'))] [] := by
  refine mk_contract [] Try.func69 (c := Try.f69.body.get!) (by kernel_rfl) k69 r69 (of_decide_eq_true rfl) fun _ => ?_
  unfold c69; unfold regR; simp
  refine callW_ms [.ro, .ro] ?_
  simp
  refine callX_of (w125 c c' hc hc') (by simp) ?_
  simp
  refine ⟨fun h => ?_, fun h => ?_⟩
  · refine callW_ms [.ro, .ro] ?_
    simp
    refine callX_of (w125 r r' hr hr') (by simp) ?_
    simp
    refine ⟨fun h2 => ?_, fun h2 => ?_⟩
    · refine callW_ms [.ro, .ro] ?_
      simp
      refine callX_of (w125 e e' he he') (by simp) ?_
      simp [h, h2]
    · simp [h2]
  · simp [h]
end Go.Proofs.YtloodkhdngipbaaT
