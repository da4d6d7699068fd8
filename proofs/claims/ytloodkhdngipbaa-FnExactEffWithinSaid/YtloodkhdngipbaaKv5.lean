/- Effects: whether they have commands. -/
import Derived.Test.YtloodkhdngipbaaKa
namespace Go.Proofs.YtloodkhdngipbaaT
set_option linter.unusedVariables false
set_option linter.unusedSimpArgs false
open Go

/- laws.szEffect -/
def c60 : TCode := (.seq (.ops [⟨(some 2), 4, .box 10 (.t 0), none, []⟩, ⟨(some 4), 6, .mv (.c (.i .i64 0)), none, []⟩])
  (.seq (.ops [⟨(some 5), 7, .faddr 0 1 (.t 2), none, []⟩, ⟨(some 6), 8, .load false 1 (.t 5), none, []⟩, ⟨(some 7), 9, .mv (.t 1), none, []⟩, ⟨(some 8), 10, .call 107 [((.t 6), 0), ((.t 7), 0)], none, []⟩, ⟨(some 1), 3, .mv (.t 8), none, []⟩])
  (.seq (.seq (.ops [⟨(some 9), 11, .mv (.t 1), none, []⟩, ⟨(some 10), 12, .bin .lss (.t 9) (.c (.i .i64 0)), none, []⟩])
  (.cond (.t 10)
  (.seq (.ops [⟨(some 4), 6, .mv (.c (.i .i64 (-1))), none, []⟩])
  .ret)
  .skip))
  (.seq (.ops [⟨(some 11), 13, .faddr 1 1 (.t 2), none, []⟩, ⟨(some 12), 14, .load false 1 (.t 11), none, []⟩, ⟨(some 13), 15, .mv (.t 1), none, []⟩, ⟨(some 14), 16, .call 107 [((.t 12), 0), ((.t 13), 0)], none, []⟩, ⟨(some 1), 3, .mv (.t 14), none, []⟩])
  (.seq (.seq (.ops [⟨(some 15), 17, .mv (.t 1), none, []⟩, ⟨(some 16), 18, .bin .lss (.t 15) (.c (.i .i64 0)), none, []⟩])
  (.cond (.t 16)
  (.seq (.ops [⟨(some 4), 6, .mv (.c (.i .i64 (-1))), none, []⟩])
  .ret)
  .skip))
  (.seq (.ops [⟨(some 17), 19, .faddr 2 1 (.t 2), none, []⟩, ⟨(some 18), 20, .load false 1 (.t 17), none, []⟩, ⟨(some 19), 21, .mv (.t 1), none, []⟩, ⟨(some 20), 22, .call 107 [((.t 18), 0), ((.t 19), 0)], none, []⟩, ⟨(some 1), 3, .mv (.t 20), none, []⟩])
  (.seq (.seq (.ops [⟨(some 21), 23, .mv (.t 1), none, []⟩, ⟨(some 22), 24, .bin .lss (.t 21) (.c (.i .i64 0)), none, []⟩])
  (.cond (.t 22)
  (.seq (.ops [⟨(some 4), 6, .mv (.c (.i .i64 (-1))), none, []⟩])
  .ret)
  .skip))
  (.seq (.ops [⟨(some 23), 25, .faddr 3 1 (.t 2), none, []⟩, ⟨(some 24), 26, .load false 1 (.t 23), none, []⟩, ⟨(some 25), 27, .mv (.t 1), none, []⟩, ⟨(some 26), 28, .call 107 [((.t 24), 0), ((.t 25), 0)], none, []⟩, ⟨(some 1), 3, .mv (.t 26), none, []⟩])
  (.seq (.seq (.ops [⟨(some 27), 29, .mv (.t 1), none, []⟩, ⟨(some 28), 30, .bin .lss (.t 27) (.c (.i .i64 0)), none, []⟩])
  (.cond (.t 28)
  (.seq (.ops [⟨(some 4), 6, .mv (.c (.i .i64 (-1))), none, []⟩])
  .ret)
  .skip))
  (.seq (.ops [⟨(some 29), 31, .faddr 4 1 (.t 2), none, []⟩, ⟨(some 30), 32, .load false 1 (.t 29), none, []⟩, ⟨(some 31), 33, .mv (.t 1), none, []⟩, ⟨(some 32), 34, .call 107 [((.t 30), 0), ((.t 31), 0)], none, []⟩, ⟨(some 1), 3, .mv (.t 32), none, []⟩])
  (.seq (.seq (.ops [⟨(some 33), 35, .mv (.t 1), none, []⟩, ⟨(some 34), 36, .bin .lss (.t 33) (.c (.i .i64 0)), none, []⟩])
  (.cond (.t 34)
  (.seq (.ops [⟨(some 4), 6, .mv (.c (.i .i64 (-1))), none, []⟩])
  .ret)
  .skip))
  (.seq (.ops [⟨(some 35), 37, .faddr 5 1 (.t 2), none, []⟩, ⟨(some 36), 38, .load false 1 (.t 35), none, []⟩, ⟨(some 37), 39, .mv (.t 1), none, []⟩, ⟨(some 38), 40, .call 107 [((.t 36), 0), ((.t 37), 0)], none, []⟩, ⟨(some 1), 3, .mv (.t 38), none, []⟩])
  (.seq (.seq (.ops [⟨(some 39), 41, .mv (.t 1), none, []⟩, ⟨(some 40), 42, .bin .lss (.t 39) (.c (.i .i64 0)), none, []⟩])
  (.cond (.t 40)
  (.seq (.ops [⟨(some 4), 6, .mv (.c (.i .i64 (-1))), none, []⟩])
  .ret)
  .skip))
  (.seq (.ops [⟨(some 41), 43, .faddr 6 1 (.t 2), none, []⟩, ⟨(some 42), 44, .load false 1 (.t 41), none, []⟩, ⟨(some 43), 45, .mv (.t 1), none, []⟩, ⟨(some 44), 46, .call 107 [((.t 42), 0), ((.t 43), 0)], none, []⟩, ⟨(some 1), 3, .mv (.t 44), none, []⟩])
  (.seq (.seq (.ops [⟨(some 45), 47, .mv (.t 1), none, []⟩, ⟨(some 46), 48, .bin .lss (.t 45) (.c (.i .i64 0)), none, []⟩])
  (.cond (.t 46)
  (.seq (.ops [⟨(some 4), 6, .mv (.c (.i .i64 (-1))), none, []⟩])
  .ret)
  .skip))
  (.seq (.ops [⟨(some 47), 49, .faddr 7 1 (.t 2), none, []⟩, ⟨(some 48), 50, .load false 1 (.t 47), none, []⟩, ⟨(some 49), 51, .mv (.t 1), none, []⟩, ⟨(some 50), 52, .call 107 [((.t 48), 0), ((.t 49), 0)], none, []⟩, ⟨(some 1), 3, .mv (.t 50), none, []⟩])
  (.seq (.seq (.ops [⟨(some 51), 53, .mv (.t 1), none, []⟩, ⟨(some 52), 54, .bin .lss (.t 51) (.c (.i .i64 0)), none, []⟩])
  (.cond (.t 52)
  (.seq (.ops [⟨(some 4), 6, .mv (.c (.i .i64 (-1))), none, []⟩])
  .ret)
  .skip))
  (.seq (.ops [⟨(some 53), 55, .mv (.t 1), none, []⟩, ⟨(some 4), 6, .mv (.t 53), none, []⟩])
  .ret))))))))))))))))))
theorem k60 : compCode Try.prog Try.f60.ntmps Try.f60.body.get! = some c60 := by kernel_rfl
theorem r60 : resTmps Try.prog Try.f60.results.toList = some [.tmp 4] := by kernel_rfl
/- laws.toEffect -/
def c62 : TCode := (.seq (.ops [⟨(some 1), 3, .box 10 (.t 0), none, []⟩, ⟨(some 2), 4, .box 10 (.c (.ag [(.sl true 1 []), (.sl true 1 []), (.sl true 1 []), (.sl true 1 []), (.sl true 1 []), (.sl true 1 []), (.sl true 1 []), (.sl true 1 []), (.b false), (.b false)])), none, []⟩])
  (.seq (.ops [⟨(some 3), 5, .box 10 (.c (.ag [(.sl true 1 []), (.sl true 1 []), (.sl true 1 []), (.sl true 1 []), (.sl true 1 []), (.sl true 1 []), (.sl true 1 []), (.sl true 1 []), (.b false), (.b false)])), none, []⟩])
  (.seq (.ops [⟨(some 4), 6, .faddr 0 1 (.t 1), none, []⟩, ⟨(some 5), 7, .load false 1 (.t 4), none, []⟩, ⟨(some 6), 8, .call 110 [((.t 5), 0)], none, []⟩, ⟨(some 7), 9, .faddr 0 1 (.t 3), none, []⟩, ⟨none, 1002004, .store 1 (.t 7) (.t 6), none, []⟩])
  (.seq (.ops [⟨(some 8), 10, .faddr 1 1 (.t 1), none, []⟩, ⟨(some 9), 11, .load false 1 (.t 8), none, []⟩, ⟨(some 10), 12, .call 110 [((.t 9), 0)], none, []⟩, ⟨(some 11), 13, .faddr 1 1 (.t 3), none, []⟩, ⟨none, 1003004, .store 1 (.t 11) (.t 10), none, []⟩])
  (.seq (.ops [⟨(some 12), 14, .faddr 2 1 (.t 1), none, []⟩, ⟨(some 13), 15, .load false 1 (.t 12), none, []⟩, ⟨(some 14), 16, .call 110 [((.t 13), 0)], none, []⟩, ⟨(some 15), 17, .faddr 2 1 (.t 3), none, []⟩, ⟨none, 1004004, .store 1 (.t 15) (.t 14), none, []⟩])
  (.seq (.ops [⟨(some 16), 18, .faddr 3 1 (.t 1), none, []⟩, ⟨(some 17), 19, .load false 1 (.t 16), none, []⟩, ⟨(some 18), 20, .call 110 [((.t 17), 0)], none, []⟩, ⟨(some 19), 21, .faddr 3 1 (.t 3), none, []⟩, ⟨none, 1005004, .store 1 (.t 19) (.t 18), none, []⟩])
  (.seq (.ops [⟨(some 20), 22, .faddr 4 1 (.t 1), none, []⟩, ⟨(some 21), 23, .load false 1 (.t 20), none, []⟩, ⟨(some 22), 24, .call 110 [((.t 21), 0)], none, []⟩, ⟨(some 23), 25, .faddr 4 1 (.t 3), none, []⟩, ⟨none, 1006004, .store 1 (.t 23) (.t 22), none, []⟩])
  (.seq (.ops [⟨(some 24), 26, .faddr 5 1 (.t 1), none, []⟩, ⟨(some 25), 27, .load false 1 (.t 24), none, []⟩, ⟨(some 26), 28, .call 110 [((.t 25), 0)], none, []⟩, ⟨(some 27), 29, .faddr 5 1 (.t 3), none, []⟩, ⟨none, 1007004, .store 1 (.t 27) (.t 26), none, []⟩])
  (.seq (.ops [⟨(some 28), 30, .faddr 6 1 (.t 1), none, []⟩, ⟨(some 29), 31, .load false 1 (.t 28), none, []⟩, ⟨(some 30), 32, .call 110 [((.t 29), 0)], none, []⟩, ⟨(some 31), 33, .faddr 6 1 (.t 3), none, []⟩, ⟨none, 1008004, .store 1 (.t 31) (.t 30), none, []⟩])
  (.seq (.ops [⟨(some 32), 34, .faddr 7 1 (.t 1), none, []⟩, ⟨(some 33), 35, .load false 1 (.t 32), none, []⟩, ⟨(some 34), 36, .call 110 [((.t 33), 0)], none, []⟩, ⟨(some 35), 37, .faddr 7 1 (.t 3), none, []⟩, ⟨none, 1009004, .store 1 (.t 35) (.t 34), none, []⟩])
  (.seq (.ops [⟨(some 36), 38, .faddr 8 1 (.t 1), none, []⟩, ⟨(some 37), 39, .load false 1 (.t 36), none, []⟩, ⟨(some 38), 40, .faddr 8 1 (.t 3), none, []⟩, ⟨none, 1010003, .store 1 (.t 38) (.t 37), none, []⟩])
  (.seq (.ops [⟨(some 39), 41, .faddr 9 1 (.t 1), none, []⟩, ⟨(some 40), 42, .load false 1 (.t 39), none, []⟩, ⟨(some 41), 43, .faddr 9 1 (.t 3), none, []⟩, ⟨none, 1011003, .store 1 (.t 41) (.t 40), none, []⟩])
  (.seq (.ops [⟨(some 42), 44, .load true 10 (.t 3), none, []⟩, ⟨none, 1012001, .store 10 (.t 2) (.t 42), none, []⟩])
  .ret)))))))))))))
theorem k62 : compCode Try.prog Try.f62.ntmps Try.f62.body.get! = some c62 := by kernel_rfl
theorem r62 : resTmps Try.prog Try.f62.results.toList = some [.cell 2 true 10] := by kernel_rfl
/- laws.eqEffect -/
def c64 : TCode := (.seq (.ops [⟨(some 2), 4, .box 10 (.t 0), none, []⟩, ⟨(some 3), 5, .box 10 (.t 1), none, []⟩, ⟨(some 4), 6, .mv (.c (.b false)), none, []⟩])
  (.seq (.seq (.ops [⟨(some 5), 7, .faddr 0 1 (.t 2), none, []⟩, ⟨(some 6), 8, .load false 1 (.t 5), none, []⟩, ⟨(some 7), 9, .faddr 0 1 (.t 3), none, []⟩, ⟨(some 8), 10, .load false 1 (.t 7), none, []⟩, ⟨(some 9), 11, .call 115 [((.t 6), 0), ((.t 8), 0)], none, []⟩, ⟨(some 10), 12, .un .not (.t 9), none, []⟩])
  (.cond (.t 10)
  (.seq (.ops [⟨(some 4), 6, .mv (.c (.b false)), none, []⟩])
  .ret)
  .skip))
  (.seq (.seq (.ops [⟨(some 11), 13, .faddr 1 1 (.t 2), none, []⟩, ⟨(some 12), 14, .load false 1 (.t 11), none, []⟩, ⟨(some 13), 15, .faddr 1 1 (.t 3), none, []⟩, ⟨(some 14), 16, .load false 1 (.t 13), none, []⟩, ⟨(some 15), 17, .call 115 [((.t 12), 0), ((.t 14), 0)], none, []⟩, ⟨(some 16), 18, .un .not (.t 15), none, []⟩])
  (.cond (.t 16)
  (.seq (.ops [⟨(some 4), 6, .mv (.c (.b false)), none, []⟩])
  .ret)
  .skip))
  (.seq (.seq (.ops [⟨(some 17), 19, .faddr 2 1 (.t 2), none, []⟩, ⟨(some 18), 20, .load false 1 (.t 17), none, []⟩, ⟨(some 19), 21, .faddr 2 1 (.t 3), none, []⟩, ⟨(some 20), 22, .load false 1 (.t 19), none, []⟩, ⟨(some 21), 23, .call 115 [((.t 18), 0), ((.t 20), 0)], none, []⟩, ⟨(some 22), 24, .un .not (.t 21), none, []⟩])
  (.cond (.t 22)
  (.seq (.ops [⟨(some 4), 6, .mv (.c (.b false)), none, []⟩])
  .ret)
  .skip))
  (.seq (.seq (.ops [⟨(some 23), 25, .faddr 3 1 (.t 2), none, []⟩, ⟨(some 24), 26, .load false 1 (.t 23), none, []⟩, ⟨(some 25), 27, .faddr 3 1 (.t 3), none, []⟩, ⟨(some 26), 28, .load false 1 (.t 25), none, []⟩, ⟨(some 27), 29, .call 115 [((.t 24), 0), ((.t 26), 0)], none, []⟩, ⟨(some 28), 30, .un .not (.t 27), none, []⟩])
  (.cond (.t 28)
  (.seq (.ops [⟨(some 4), 6, .mv (.c (.b false)), none, []⟩])
  .ret)
  .skip))
  (.seq (.seq (.ops [⟨(some 29), 31, .faddr 4 1 (.t 2), none, []⟩, ⟨(some 30), 32, .load false 1 (.t 29), none, []⟩, ⟨(some 31), 33, .faddr 4 1 (.t 3), none, []⟩, ⟨(some 32), 34, .load false 1 (.t 31), none, []⟩, ⟨(some 33), 35, .call 115 [((.t 30), 0), ((.t 32), 0)], none, []⟩, ⟨(some 34), 36, .un .not (.t 33), none, []⟩])
  (.cond (.t 34)
  (.seq (.ops [⟨(some 4), 6, .mv (.c (.b false)), none, []⟩])
  .ret)
  .skip))
  (.seq (.seq (.ops [⟨(some 35), 37, .faddr 5 1 (.t 2), none, []⟩, ⟨(some 36), 38, .load false 1 (.t 35), none, []⟩, ⟨(some 37), 39, .faddr 5 1 (.t 3), none, []⟩, ⟨(some 38), 40, .load false 1 (.t 37), none, []⟩, ⟨(some 39), 41, .call 115 [((.t 36), 0), ((.t 38), 0)], none, []⟩, ⟨(some 40), 42, .un .not (.t 39), none, []⟩])
  (.cond (.t 40)
  (.seq (.ops [⟨(some 4), 6, .mv (.c (.b false)), none, []⟩])
  .ret)
  .skip))
  (.seq (.seq (.ops [⟨(some 41), 43, .faddr 6 1 (.t 2), none, []⟩, ⟨(some 42), 44, .load false 1 (.t 41), none, []⟩, ⟨(some 43), 45, .faddr 6 1 (.t 3), none, []⟩, ⟨(some 44), 46, .load false 1 (.t 43), none, []⟩, ⟨(some 45), 47, .call 115 [((.t 42), 0), ((.t 44), 0)], none, []⟩, ⟨(some 46), 48, .un .not (.t 45), none, []⟩])
  (.cond (.t 46)
  (.seq (.ops [⟨(some 4), 6, .mv (.c (.b false)), none, []⟩])
  .ret)
  .skip))
  (.seq (.seq (.ops [⟨(some 47), 49, .faddr 7 1 (.t 2), none, []⟩, ⟨(some 48), 50, .load false 1 (.t 47), none, []⟩, ⟨(some 49), 51, .faddr 7 1 (.t 3), none, []⟩, ⟨(some 50), 52, .load false 1 (.t 49), none, []⟩, ⟨(some 51), 53, .call 115 [((.t 48), 0), ((.t 50), 0)], none, []⟩, ⟨(some 52), 54, .un .not (.t 51), none, []⟩])
  (.cond (.t 52)
  (.seq (.ops [⟨(some 4), 6, .mv (.c (.b false)), none, []⟩])
  .ret)
  .skip))
  (.seq (.seq (.ops [⟨(some 53), 55, .faddr 8 1 (.t 2), none, []⟩, ⟨(some 54), 56, .load false 1 (.t 53), none, []⟩, ⟨(some 55), 57, .faddr 8 1 (.t 3), none, []⟩, ⟨(some 56), 58, .load false 1 (.t 55), none, []⟩, ⟨(some 57), 59, .eqs true false [.b] (.t 54) (.t 56), none, []⟩])
  (.cond (.t 57)
  (.seq (.ops [⟨(some 4), 6, .mv (.c (.b false)), none, []⟩])
  .ret)
  .skip))
  (.seq (.seq (.ops [⟨(some 58), 60, .faddr 9 1 (.t 2), none, []⟩, ⟨(some 59), 61, .load false 1 (.t 58), none, []⟩, ⟨(some 60), 62, .faddr 9 1 (.t 3), none, []⟩, ⟨(some 61), 63, .load false 1 (.t 60), none, []⟩, ⟨(some 62), 64, .eqs true false [.b] (.t 59) (.t 61), none, []⟩])
  (.cond (.t 62)
  (.seq (.ops [⟨(some 4), 6, .mv (.c (.b false)), none, []⟩])
  .ret)
  .skip))
  (.seq (.ops [⟨(some 4), 6, .mv (.c (.b true)), none, []⟩])
  .ret))))))))))))
theorem k64 : compCode Try.prog Try.f64.ntmps Try.f64.body.get! = some c64 := by kernel_rfl
theorem r64 : resTmps Try.prog Try.f64.results.toList = some [.tmp 4] := by kernel_rfl

/-- An Effect: eight lists, two flags. -/
abbrev EffP := List Int × List Int × List Int × List Int × List Int × List Int × List Int × List Int × Bool × Bool
def effR (e : EffP) : TV := .ag [.sl false 1 (e.1.map iT), .sl false 1 (e.2.1.map iT), .sl false 1 (e.2.2.1.map iT), .sl false 1 (e.2.2.2.1.map iT), .sl false 1 (e.2.2.2.2.1.map iT), .sl false 1 (e.2.2.2.2.2.1.map iT), .sl false 1 (e.2.2.2.2.2.2.1.map iT), .sl false 1 (e.2.2.2.2.2.2.2.1.map iT), .b e.2.2.2.2.2.2.2.2.1, .b e.2.2.2.2.2.2.2.2.2]
def effO (e : EffP) : TV := .ag [.sl true 1 (e.1.map iT), .sl true 1 (e.2.1.map iT), .sl true 1 (e.2.2.1.map iT), .sl true 1 (e.2.2.2.1.map iT), .sl true 1 (e.2.2.2.2.1.map iT), .sl true 1 (e.2.2.2.2.2.1.map iT), .sl true 1 (e.2.2.2.2.2.2.1.map iT), .sl true 1 (e.2.2.2.2.2.2.2.1.map iT), .b e.2.2.2.2.2.2.2.2.1, .b e.2.2.2.2.2.2.2.2.2]
def effLs (e : EffP) : List (List Int) := [e.1, e.2.1, e.2.2.1, e.2.2.2.1, e.2.2.2.2.1, e.2.2.2.2.2.1, e.2.2.2.2.2.2.1, e.2.2.2.2.2.2.2.1]
def effB (k : Nat) (e : EffP) : Prop := e.1.length ≤ k ∧ e.2.1.length ≤ k ∧ e.2.2.1.length ≤ k ∧ e.2.2.2.1.length ≤ k ∧ e.2.2.2.2.1.length ≤ k ∧ e.2.2.2.2.2.1.length ≤ k ∧ e.2.2.2.2.2.2.1.length ≤ k ∧ e.2.2.2.2.2.2.2.1.length ≤ k
def szLen (l : List Int) (m : Int) : Int := szF m l.length
theorem szLen_le (l : List Int) (m : Int) (h : 0 ≤ m) : szLen l m ≤ m := szF_le _ _ (by omega) h
theorem szLen_neg (l : List Int) (m : Int) (h : szLen l m < 0) : szLen l m = -1 := szF_neg _ _ h
def szEffF (e : EffP) (n : Int) : Int := szA szLen (effLs e) n
theorem szEff_ok {e : EffP} {n : Int} {k : Nat} (h0 : 0 ≤ n) (hk : n ≤ k) (h : ¬ szEffF e n < 0) : 0 ≤ szEffF e n ∧ szEffF e n ≤ n ∧ effB k e := by
  obtain ⟨h1, h2⟩ := szA_ok szLen_le (effLs e) n (by unfold szEffF at h; omega) h0
  have hb : ∀ l ∈ effLs e, l.length ≤ k := fun l hl => by
    obtain ⟨m, m1, m2, m3⟩ := h2 l hl
    have := (szF_pos (n := m) (k := l.length) m3).2
    omega
  refine ⟨by omega, h1, ?_⟩
  simp only [effLs, List.mem_cons, List.not_mem_nil, or_false, forall_eq_or_imp, forall_eq] at hb
  exact hb
theorem szA_cons {α : Type} (f : α → Int → Int) (x : α) (l : List α) (n : Int) (h : 0 ≤ n) : szA f (x :: l) n = szA f l (f x n) := by
  show szA f l (if n < 0 then -1 else f x n) = _; rw [if_neg (by omega)]
theorem szA_cneg {α : Type} {f : α → Int → Int} (hn : ∀ x m, f x m < 0 → f x m = -1) (x : α) (l : List α) (n : Int) (h : 0 ≤ n) (h2 : f x n < 0) : szA f (x :: l) n = -1 := by
  rw [szA_cons f x l n h]; exact szA_neg f l _ (hn x n h2)
theorem w60 (e : EffP) (n : Int) (hb : effB 9223372036854775807 e) (hn : n < 2^62) (hn0 : 0 ≤ n) : Contract Try.prog false 60 [.ro, .ro] [effR e, .i .i64 n] [.i .i64 (szEffF e n)] [] := by
  refine mk_contract [] Try.func60 (c := Try.f60.body.get!) (by kernel_rfl) k60 r60 (of_decide_eq_true rfl) fun _ => ?_
  obtain ⟨b1, b2, b3, b4, b5, b6, b7, b8⟩ := hb
  unfold c60; unfold effR szEffF effLs; simp
  refine callW_ms [.ro, .ro] ?_
  simp
  refine callX_of (w107 e.1 n (by omega) (by omega) hn0) (by simp) ?_
  simp
  have q1 := szF_le n e.1.length (by omega) hn0
  obtain ⟨m1, em1⟩ : ∃ m, m = szF n e.1.length := ⟨_, rfl⟩
  have nm1 : m1 < 0 → m1 = -1 := fun h => by rw [em1] at h ⊢; exact szF_neg _ _ h
  rw [szA_cons szLen _ _ _ hn0, show szLen e.1 n = m1 from em1.symm, ← em1]
  rw [← em1] at q1
  refine ⟨fun h => by rw [szA_neg szLen _ _ (nm1 h)], fun hm1 => ?_⟩
  refine callW_ms [.ro, .ro] ?_
  simp
  refine callX_of (w107 e.2.1 m1 (by omega) (by omega) hm1) (by simp) ?_
  simp
  have q2 := szF_le m1 e.2.1.length (by omega) hm1
  obtain ⟨m2, em2⟩ : ∃ m, m = szF m1 e.2.1.length := ⟨_, rfl⟩
  have nm2 : m2 < 0 → m2 = -1 := fun h => by rw [em2] at h ⊢; exact szF_neg _ _ h
  rw [szA_cons szLen _ _ _ hm1, show szLen e.2.1 m1 = m2 from em2.symm, ← em2]
  rw [← em2] at q2
  refine ⟨fun h => by rw [szA_neg szLen _ _ (nm2 h)], fun hm2 => ?_⟩
  refine callW_ms [.ro, .ro] ?_
  simp
  refine callX_of (w107 e.2.2.1 m2 (by omega) (by omega) hm2) (by simp) ?_
  simp
  have q3 := szF_le m2 e.2.2.1.length (by omega) hm2
  obtain ⟨m3, em3⟩ : ∃ m, m = szF m2 e.2.2.1.length := ⟨_, rfl⟩
  have nm3 : m3 < 0 → m3 = -1 := fun h => by rw [em3] at h ⊢; exact szF_neg _ _ h
  rw [szA_cons szLen _ _ _ hm2, show szLen e.2.2.1 m2 = m3 from em3.symm, ← em3]
  rw [← em3] at q3
  refine ⟨fun h => by rw [szA_neg szLen _ _ (nm3 h)], fun hm3 => ?_⟩
  refine callW_ms [.ro, .ro] ?_
  simp
  refine callX_of (w107 e.2.2.2.1 m3 (by omega) (by omega) hm3) (by simp) ?_
  simp
  have q4 := szF_le m3 e.2.2.2.1.length (by omega) hm3
  obtain ⟨m4, em4⟩ : ∃ m, m = szF m3 e.2.2.2.1.length := ⟨_, rfl⟩
  have nm4 : m4 < 0 → m4 = -1 := fun h => by rw [em4] at h ⊢; exact szF_neg _ _ h
  rw [szA_cons szLen _ _ _ hm3, show szLen e.2.2.2.1 m3 = m4 from em4.symm, ← em4]
  rw [← em4] at q4
  refine ⟨fun h => by rw [szA_neg szLen _ _ (nm4 h)], fun hm4 => ?_⟩
  refine callW_ms [.ro, .ro] ?_
  simp
  refine callX_of (w107 e.2.2.2.2.1 m4 (by omega) (by omega) hm4) (by simp) ?_
  simp
  have q5 := szF_le m4 e.2.2.2.2.1.length (by omega) hm4
  obtain ⟨m5, em5⟩ : ∃ m, m = szF m4 e.2.2.2.2.1.length := ⟨_, rfl⟩
  have nm5 : m5 < 0 → m5 = -1 := fun h => by rw [em5] at h ⊢; exact szF_neg _ _ h
  rw [szA_cons szLen _ _ _ hm4, show szLen e.2.2.2.2.1 m4 = m5 from em5.symm, ← em5]
  rw [← em5] at q5
  refine ⟨fun h => by rw [szA_neg szLen _ _ (nm5 h)], fun hm5 => ?_⟩
  refine callW_ms [.ro, .ro] ?_
  simp
  refine callX_of (w107 e.2.2.2.2.2.1 m5 (by omega) (by omega) hm5) (by simp) ?_
  simp
  have q6 := szF_le m5 e.2.2.2.2.2.1.length (by omega) hm5
  obtain ⟨m6, em6⟩ : ∃ m, m = szF m5 e.2.2.2.2.2.1.length := ⟨_, rfl⟩
  have nm6 : m6 < 0 → m6 = -1 := fun h => by rw [em6] at h ⊢; exact szF_neg _ _ h
  rw [szA_cons szLen _ _ _ hm5, show szLen e.2.2.2.2.2.1 m5 = m6 from em6.symm, ← em6]
  rw [← em6] at q6
  refine ⟨fun h => by rw [szA_neg szLen _ _ (nm6 h)], fun hm6 => ?_⟩
  refine callW_ms [.ro, .ro] ?_
  simp
  refine callX_of (w107 e.2.2.2.2.2.2.1 m6 (by omega) (by omega) hm6) (by simp) ?_
  simp
  have q7 := szF_le m6 e.2.2.2.2.2.2.1.length (by omega) hm6
  obtain ⟨m7, em7⟩ : ∃ m, m = szF m6 e.2.2.2.2.2.2.1.length := ⟨_, rfl⟩
  have nm7 : m7 < 0 → m7 = -1 := fun h => by rw [em7] at h ⊢; exact szF_neg _ _ h
  rw [szA_cons szLen _ _ _ hm6, show szLen e.2.2.2.2.2.2.1 m6 = m7 from em7.symm, ← em7]
  rw [← em7] at q7
  refine ⟨fun h => by rw [szA_neg szLen _ _ (nm7 h)], fun hm7 => ?_⟩
  refine callW_ms [.ro, .ro] ?_
  simp
  refine callX_of (w107 e.2.2.2.2.2.2.2.1 m7 (by omega) (by omega) hm7) (by simp) ?_
  simp
  have q8 := szF_le m7 e.2.2.2.2.2.2.2.1.length (by omega) hm7
  obtain ⟨m8, em8⟩ : ∃ m, m = szF m7 e.2.2.2.2.2.2.2.1.length := ⟨_, rfl⟩
  have nm8 : m8 < 0 → m8 = -1 := fun h => by rw [em8] at h ⊢; exact szF_neg _ _ h
  rw [szA_cons szLen _ _ _ hm7, show szLen e.2.2.2.2.2.2.2.1 m7 = m8 from em8.symm, ← em8]
  rw [← em8] at q8
  simp
  exact fun h => (nm8 h).symm
theorem w62 (e : EffP) (hb : effB (2^40) e) : Contract Try.prog false 62 [.ro] [effR e] [effO e] [] := by
  refine mk_contract [] Try.func62 (c := Try.f62.body.get!) (by kernel_rfl) k62 r62 (of_decide_eq_true rfl) fun _ => ?_
  obtain ⟨b1, b2, b3, b4, b5, b6, b7, b8⟩ := hb
  unfold c62; unfold effR effO; simp
  refine callW_ms [.ro] ?_
  simp
  refine callX_of (w110 e.1 b1) (by simp) ?_
  simp
  refine callW_ms [.ro] ?_
  simp
  refine callX_of (w110 e.2.1 b2) (by simp) ?_
  simp
  refine callW_ms [.ro] ?_
  simp
  refine callX_of (w110 e.2.2.1 b3) (by simp) ?_
  simp
  refine callW_ms [.ro] ?_
  simp
  refine callX_of (w110 e.2.2.2.1 b4) (by simp) ?_
  simp
  refine callW_ms [.ro] ?_
  simp
  refine callX_of (w110 e.2.2.2.2.1 b5) (by simp) ?_
  simp
  refine callW_ms [.ro] ?_
  simp
  refine callX_of (w110 e.2.2.2.2.2.1 b6) (by simp) ?_
  simp
  refine callW_ms [.ro] ?_
  simp
  refine callX_of (w110 e.2.2.2.2.2.2.1 b7) (by simp) ?_
  simp
  refine callW_ms [.ro] ?_
  simp
  refine callX_of (w110 e.2.2.2.2.2.2.2.1 b8) (by simp) ?_
  simp
theorem w64 (e : EffP) (hb : effB (2^40) e) : Contract Try.prog false 64 [.ro, .ro] [effR e, effR e] [.b true] [] := by
  refine mk_contract [] Try.func64 (c := Try.f64.body.get!) (by kernel_rfl) k64 r64 (of_decide_eq_true rfl) fun _ => ?_
  obtain ⟨b1, b2, b3, b4, b5, b6, b7, b8⟩ := hb
  unfold c64; unfold effR; simp
  refine callW_ms [.ro, .ro] ?_
  simp
  refine callX_of (w115 e.1 e.1 b1 b1) (by simp) ?_
  simp
  refine callW_ms [.ro, .ro] ?_
  simp
  refine callX_of (w115 e.2.1 e.2.1 b2 b2) (by simp) ?_
  simp
  refine callW_ms [.ro, .ro] ?_
  simp
  refine callX_of (w115 e.2.2.1 e.2.2.1 b3 b3) (by simp) ?_
  simp
  refine callW_ms [.ro, .ro] ?_
  simp
  refine callX_of (w115 e.2.2.2.1 e.2.2.2.1 b4 b4) (by simp) ?_
  simp
  refine callW_ms [.ro, .ro] ?_
  simp
  refine callX_of (w115 e.2.2.2.2.1 e.2.2.2.2.1 b5 b5) (by simp) ?_
  simp
  refine callW_ms [.ro, .ro] ?_
  simp
  refine callX_of (w115 e.2.2.2.2.2.1 e.2.2.2.2.2.1 b6 b6) (by simp) ?_
  simp
  refine callW_ms [.ro, .ro] ?_
  simp
  refine callX_of (w115 e.2.2.2.2.2.2.1 e.2.2.2.2.2.2.1 b7 b7) (by simp) ?_
  simp
  refine callW_ms [.ro, .ro] ?_
  simp
  refine callX_of (w115 e.2.2.2.2.2.2.2.1 e.2.2.2.2.2.2.2.1 b8 b8) (by simp) ?_
  simp
def cmdsF (e : EffP) : Bool := e.2.2.2.2.2.2.2.2.1 || e.2.2.2.2.2.2.2.2.2 || decide (0 < e.2.2.2.2.2.2.2.1.length)
end Go.Proofs.YtloodkhdngipbaaT
