/- Values: what is done with two of them. -/
import Derived.Test.YtpoalnlkhlchbaaKv2
namespace Go.Proofs.YtpoalnlkhlchbaaT
set_option linter.unusedVariables false
set_option linter.unusedSimpArgs false
open Go

/- spec.l1Bool -/
def c52 : TCode := (.seq (.ops [⟨(some 2), 4, .box 4 (.c (.ag [(.i .i64 0), (.i .i64 0), (.f 0), (.f 0)])), none, []⟩])
  (.seq (.seq (.ops [⟨(some 3), 5, .mv (.t 0), none, []⟩])
  (.cond (.t 3)
  (.seq (.ops [⟨(some 4), 6, .build [(.i .i64 0), (.i .i64 0), (.f 0), (.f 0)] [(0, 1, (.c (.i .i64 4))), (1, 1, (.c (.i .i64 1)))], none, []⟩, ⟨none, 1002001, .store 4 (.t 2) (.t 4), none, []⟩])
  .ret)
  .skip))
  (.seq (.ops [⟨(some 5), 7, .build [(.i .i64 0), (.i .i64 0), (.f 0), (.f 0)] [(0, 1, (.c (.i .i64 4)))], none, []⟩, ⟨none, 1003001, .store 4 (.t 2) (.t 5), none, []⟩])
  .ret)))
theorem k52 : compCode Try.prog Try.f52.ntmps Try.f52.body.get! = some c52 := by kernel_rfl
theorem r52 : resTmps Try.prog Try.f52.results.toList = some [.cell 2 true 4] := by kernel_rfl
/- impl.yesNo -/
def c54 : TCode := (.seq (.ops [⟨(some 2), 4, .box 4 (.c (.ag [(.i .i64 0), (.i .i64 0), (.f 0), (.f 0)])), none, []⟩, ⟨(some 3), 5, .mv (.c (.i .i64 0)), none, []⟩])
  (.seq (.seq (.ops [⟨(some 4), 6, .mv (.t 0), none, []⟩])
  (.cond (.t 4)
  (.seq (.ops [⟨(some 5), 7, .build [(.i .i64 0), (.i .i64 0), (.f 0), (.f 0)] [(0, 1, (.c (.i .i64 4))), (1, 1, (.c (.i .i64 1)))], none, []⟩, ⟨none, 1002001, .store 4 (.t 2) (.t 5), none, []⟩, ⟨(some 3), 5, .mv (.c (.i .i64 0)), none, []⟩])
  .ret)
  .skip))
  (.seq (.ops [⟨(some 6), 8, .build [(.i .i64 0), (.i .i64 0), (.f 0), (.f 0)] [(0, 1, (.c (.i .i64 4)))], none, []⟩, ⟨none, 1003001, .store 4 (.t 2) (.t 6), none, []⟩, ⟨(some 3), 5, .mv (.c (.i .i64 0)), none, []⟩])
  .ret)))
theorem k54 : compCode Try.prog Try.f54.ntmps Try.f54.body.get! = some c54 := by kernel_rfl
theorem r54 : resTmps Try.prog Try.f54.results.toList = some [.cell 2 true 4, .tmp 3] := by kernel_rfl
/- impl.real -/
def c53 : TCode := (.seq (.ops [⟨(some 2), 4, .box 4 (.c (.ag [(.i .i64 0), (.i .i64 0), (.f 0), (.f 0)])), none, []⟩, ⟨(some 3), 5, .mv (.c (.i .i64 0)), none, []⟩])
  (.seq (.ops [⟨(some 4), 6, .mv (.t 0), none, []⟩, ⟨(some 5), 7, .build [(.i .i64 0), (.i .i64 0), (.f 0), (.f 0)] [(0, 1, (.c (.i .i64 2))), (2, 1, (.t 4))], none, []⟩, ⟨none, 1001002, .store 4 (.t 2) (.t 5), none, []⟩, ⟨(some 3), 5, .mv (.c (.i .i64 0)), none, []⟩])
  .ret))
theorem k53 : compCode Try.prog Try.f53.ntmps Try.f53.body.get! = some c53 := by kernel_rfl
theorem r53 : resTmps Try.prog Try.f53.results.toList = some [.cell 2 true 4, .tmp 3] := by kernel_rfl
/- spec.l1IntOp -/
def c55 : TCode := (.seq (.ops [⟨(some 6), 8, .box 4 (.c (.ag [(.i .i64 0), (.i .i64 0), (.f 0), (.f 0)])), none, []⟩, ⟨(some 7), 9, .mv (.c (.i .i64 0)), none, []⟩])
  (.seq (.ops [⟨(some 9), 11, .build [(.i .i64 0), (.i .i64 0), (.f 0), (.f 0)] [(0, 1, (.c (.i .i64 1)))], none, []⟩, ⟨(some 8), 10, .box 4 (.c (.ag [(.i .i64 0), (.i .i64 0), (.f 0), (.f 0)])), none, []⟩, ⟨none, 1001002, .store 4 (.t 8) (.t 9), none, []⟩])
  (.seq (.seq (.ops [⟨(some 10), 12, .mv (.t 0), none, []⟩])
  (.block 0 (.seq (.ops [⟨(some 13), 15, .bin .eql (.t 10) (.c (.i .i64 1)), none, []⟩, ⟨(some 12), 14, .mv (.t 13), none, []⟩])
  (.cond (.t 12)
  (.ops [⟨(some 14), 16, .mv (.t 1), none, []⟩, ⟨(some 15), 17, .mv (.t 2), none, []⟩, ⟨(some 16), 18, .bin .add (.t 14) (.t 15), none, []⟩, ⟨(some 17), 19, .faddr 1 1 (.t 8), none, []⟩, ⟨none, 1005004, .store 1 (.t 17) (.t 16), none, []⟩])
  (.seq (.ops [⟨(some 19), 21, .bin .eql (.t 10) (.c (.i .i64 2)), none, []⟩, ⟨(some 18), 20, .mv (.t 19), none, []⟩])
  (.cond (.t 18)
  (.ops [⟨(some 20), 22, .mv (.t 1), none, []⟩, ⟨(some 21), 23, .mv (.t 2), none, []⟩, ⟨(some 22), 24, .bin .sub (.t 20) (.t 21), none, []⟩, ⟨(some 23), 25, .faddr 1 1 (.t 8), none, []⟩, ⟨none, 1007004, .store 1 (.t 23) (.t 22), none, []⟩])
  (.seq (.ops [⟨(some 25), 27, .bin .eql (.t 10) (.c (.i .i64 3)), none, []⟩, ⟨(some 24), 26, .mv (.t 25), none, []⟩])
  (.cond (.t 24)
  (.ops [⟨(some 26), 28, .mv (.t 1), none, []⟩, ⟨(some 27), 29, .mv (.t 2), none, []⟩, ⟨(some 28), 30, .bin .mul (.t 26) (.t 27), none, []⟩, ⟨(some 29), 31, .faddr 1 1 (.t 8), none, []⟩, ⟨none, 1009004, .store 1 (.t 29) (.t 28), none, []⟩])
  (.seq (.seq (.ops [⟨(some 31), 33, .bin .eql (.t 10) (.c (.i .i64 4)), none, []⟩, ⟨(some 30), 32, .mv (.t 31), none, []⟩])
  (.cond (.t 30)
  .skip
  (.ops [⟨(some 32), 34, .bin .eql (.t 10) (.c (.i .i64 5)), none, []⟩, ⟨(some 30), 32, .mv (.t 32), none, []⟩])))
  (.cond (.t 30)
  (.seq (.seq (.ops [⟨(some 33), 35, .mv (.t 2), none, []⟩, ⟨(some 34), 36, .bin .eql (.t 33) (.c (.i .i64 0)), none, []⟩])
  (.cond (.t 34)
  (.seq (.ops [⟨(some 35), 37, .build [(.i .i64 0), (.i .i64 0), (.f 0), (.f 0)] [], none, []⟩, ⟨none, 1013001, .store 4 (.t 6) (.t 35), none, []⟩, ⟨(some 7), 9, .mv (.c (.i .i64 2)), none, []⟩])
  .ret)
  .skip))
  (.seq (.seq (.ops [⟨(some 36), 38, .mv (.t 2), none, []⟩, ⟨(some 37), 39, .bin .eql (.t 36) (.c (.i .i64 (-1))), none, []⟩])
  (.cond (.t 37)
  (.seq (.seq (.ops [⟨(some 38), 40, .mv (.t 0), none, []⟩, ⟨(some 39), 41, .bin .eql (.t 38) (.c (.i .i64 4)), none, []⟩])
  (.cond (.t 39)
  (.ops [⟨(some 40), 42, .mv (.t 1), none, []⟩, ⟨(some 41), 43, .un .neg (.t 40), none, []⟩, ⟨(some 42), 44, .faddr 1 1 (.t 8), none, []⟩, ⟨none, 1016003, .store 1 (.t 42) (.t 41), none, []⟩])
  .skip))
  (.seq (.ops [⟨(some 43), 45, .load true 4 (.t 8), none, []⟩, ⟨none, 1017001, .store 4 (.t 6) (.t 43), none, []⟩, ⟨(some 7), 9, .mv (.c (.i .i64 0)), none, []⟩])
  .ret))
  .skip))
  (.seq (.ops [⟨(some 44), 46, .mv (.t 1), none, []⟩, ⟨(some 45), 47, .mv (.t 2), none, []⟩, ⟨(some 46), 48, .bin .quo (.t 44) (.t 45), none, []⟩, ⟨(some 47), 49, .faddr 1 1 (.t 8), none, []⟩, ⟨none, 1018004, .store 1 (.t 47) (.t 46), none, []⟩])
  (.seq (.ops [⟨(some 48), 50, .mv (.t 0), none, []⟩, ⟨(some 49), 51, .bin .eql (.t 48) (.c (.i .i64 5)), none, []⟩])
  (.cond (.t 49)
  (.ops [⟨(some 50), 52, .mv (.t 1), none, []⟩, ⟨(some 51), 53, .mv (.t 1), none, []⟩, ⟨(some 52), 54, .mv (.t 2), none, []⟩, ⟨(some 53), 55, .bin .quo (.t 51) (.t 52), none, []⟩, ⟨(some 54), 56, .mv (.t 2), none, []⟩, ⟨(some 55), 57, .bin .mul (.t 53) (.t 54), none, []⟩, ⟨(some 56), 58, .bin .sub (.t 50) (.t 55), none, []⟩, ⟨(some 57), 59, .faddr 1 1 (.t 8), none, []⟩, ⟨none, 1020008, .store 1 (.t 57) (.t 56), none, []⟩])
  .skip)))))
  (.seq (.ops [⟨(some 59), 61, .bin .eql (.t 10) (.c (.i .i64 6)), none, []⟩, ⟨(some 58), 60, .mv (.t 59), none, []⟩])
  (.cond (.t 58)
  (.seq (.ops [⟨(some 60), 62, .mv (.t 1), none, []⟩, ⟨(some 61), 63, .mv (.t 2), none, []⟩, ⟨(some 62), 64, .bin .lss (.t 60) (.t 61), none, []⟩, ⟨(some 63), 65, .call 52 [((.t 62), 0)], none, []⟩, ⟨none, 1022004, .store 4 (.t 6) (.t 63), none, []⟩, ⟨(some 7), 9, .mv (.c (.i .i64 0)), none, []⟩])
  .ret)
  (.seq (.ops [⟨(some 65), 67, .bin .eql (.t 10) (.c (.i .i64 7)), none, []⟩, ⟨(some 64), 66, .mv (.t 65), none, []⟩])
  (.cond (.t 64)
  (.seq (.ops [⟨(some 66), 68, .mv (.t 1), none, []⟩, ⟨(some 67), 69, .mv (.t 2), none, []⟩, ⟨(some 68), 70, .bin .eql (.t 66) (.t 67), none, []⟩, ⟨(some 69), 71, .call 52 [((.t 68), 0)], none, []⟩, ⟨none, 1024004, .store 4 (.t 6) (.t 69), none, []⟩, ⟨(some 7), 9, .mv (.c (.i .i64 0)), none, []⟩])
  .ret)
  (.seq (.ops [⟨(some 11), 13, .build [(.i .i64 0), (.i .i64 0), (.f 0), (.f 0)] [], none, []⟩, ⟨none, 1003001, .store 4 (.t 6) (.t 11), none, []⟩, ⟨(some 7), 9, .mv (.c (.i .i64 1)), none, []⟩])
  .ret)))))))))))))))
  (.seq (.ops [⟨(some 70), 72, .load true 4 (.t 8), none, []⟩, ⟨none, 1025001, .store 4 (.t 6) (.t 70), none, []⟩, ⟨(some 7), 9, .mv (.c (.i .i64 0)), none, []⟩])
  .ret))))
theorem k55 : compCode Try.prog Try.f55.ntmps Try.f55.body.get! = some c55 := by kernel_rfl
theorem r55 : resTmps Try.prog Try.f55.results.toList = some [.cell 6 true 4, .tmp 7] := by kernel_rfl
/- impl.opInt -/
def c58 : TCode := (.seq (.ops [⟨(some 6), 8, .box 4 (.c (.ag [(.i .i64 0), (.i .i64 0), (.f 0), (.f 0)])), none, []⟩, ⟨(some 7), 9, .mv (.c (.i .i64 0)), none, []⟩])
  (.seq (.ops [⟨(some 9), 11, .build [(.i .i64 0), (.i .i64 0), (.f 0), (.f 0)] [(0, 1, (.c (.i .i64 1)))], none, []⟩, ⟨(some 8), 10, .box 4 (.c (.ag [(.i .i64 0), (.i .i64 0), (.f 0), (.f 0)])), none, []⟩, ⟨none, 1001002, .store 4 (.t 8) (.t 9), none, []⟩])
  (.seq (.seq (.ops [⟨(some 10), 12, .mv (.t 0), none, []⟩])
  (.block 0 (.seq (.ops [⟨(some 13), 15, .bin .eql (.t 10) (.c (.i .i64 1)), none, []⟩, ⟨(some 12), 14, .mv (.t 13), none, []⟩])
  (.cond (.t 12)
  (.ops [⟨(some 14), 16, .mv (.t 1), none, []⟩, ⟨(some 15), 17, .mv (.t 2), none, []⟩, ⟨(some 16), 18, .bin .add (.t 14) (.t 15), none, []⟩, ⟨(some 17), 19, .faddr 1 1 (.t 8), none, []⟩, ⟨none, 1005004, .store 1 (.t 17) (.t 16), none, []⟩])
  (.seq (.ops [⟨(some 19), 21, .bin .eql (.t 10) (.c (.i .i64 2)), none, []⟩, ⟨(some 18), 20, .mv (.t 19), none, []⟩])
  (.cond (.t 18)
  (.ops [⟨(some 20), 22, .mv (.t 1), none, []⟩, ⟨(some 21), 23, .mv (.t 2), none, []⟩, ⟨(some 22), 24, .bin .sub (.t 20) (.t 21), none, []⟩, ⟨(some 23), 25, .faddr 1 1 (.t 8), none, []⟩, ⟨none, 1007004, .store 1 (.t 23) (.t 22), none, []⟩])
  (.seq (.ops [⟨(some 25), 27, .bin .eql (.t 10) (.c (.i .i64 3)), none, []⟩, ⟨(some 24), 26, .mv (.t 25), none, []⟩])
  (.cond (.t 24)
  (.ops [⟨(some 26), 28, .mv (.t 1), none, []⟩, ⟨(some 27), 29, .mv (.t 2), none, []⟩, ⟨(some 28), 30, .bin .mul (.t 26) (.t 27), none, []⟩, ⟨(some 29), 31, .faddr 1 1 (.t 8), none, []⟩, ⟨none, 1009004, .store 1 (.t 29) (.t 28), none, []⟩])
  (.seq (.seq (.ops [⟨(some 31), 33, .bin .eql (.t 10) (.c (.i .i64 4)), none, []⟩, ⟨(some 30), 32, .mv (.t 31), none, []⟩])
  (.cond (.t 30)
  .skip
  (.ops [⟨(some 32), 34, .bin .eql (.t 10) (.c (.i .i64 5)), none, []⟩, ⟨(some 30), 32, .mv (.t 32), none, []⟩])))
  (.cond (.t 30)
  (.seq (.seq (.ops [⟨(some 33), 35, .mv (.t 2), none, []⟩, ⟨(some 34), 36, .bin .eql (.t 33) (.c (.i .i64 0)), none, []⟩])
  (.cond (.t 34)
  (.seq (.ops [⟨(some 35), 37, .build [(.i .i64 0), (.i .i64 0), (.f 0), (.f 0)] [], none, []⟩, ⟨none, 1013001, .store 4 (.t 6) (.t 35), none, []⟩, ⟨(some 7), 9, .mv (.c (.i .i64 2)), none, []⟩])
  .ret)
  .skip))
  (.seq (.ops [⟨(some 36), 38, .mv (.t 1), none, []⟩, ⟨(some 37), 39, .mv (.t 2), none, []⟩, ⟨(some 38), 40, .bin .quo (.t 36) (.t 37), none, []⟩, ⟨(some 39), 41, .faddr 1 1 (.t 8), none, []⟩, ⟨none, 1014004, .store 1 (.t 39) (.t 38), none, []⟩])
  (.seq (.ops [⟨(some 40), 42, .mv (.t 0), none, []⟩, ⟨(some 41), 43, .bin .eql (.t 40) (.c (.i .i64 5)), none, []⟩])
  (.cond (.t 41)
  (.ops [⟨(some 42), 44, .mv (.t 1), none, []⟩, ⟨(some 43), 45, .mv (.t 2), none, []⟩, ⟨(some 44), 46, .bin .rem (.t 42) (.t 43), none, []⟩, ⟨(some 45), 47, .faddr 1 1 (.t 8), none, []⟩, ⟨none, 1016004, .store 1 (.t 45) (.t 44), none, []⟩])
  .skip))))
  (.seq (.ops [⟨(some 47), 49, .bin .eql (.t 10) (.c (.i .i64 6)), none, []⟩, ⟨(some 46), 48, .mv (.t 47), none, []⟩])
  (.cond (.t 46)
  (.seq (.ops [⟨(some 48), 50, .mv (.t 1), none, []⟩, ⟨(some 49), 51, .mv (.t 2), none, []⟩, ⟨(some 50), 52, .bin .lss (.t 48) (.t 49), none, []⟩, ⟨(some 51), 53, .call 54 [((.t 50), 0)], none, []⟩, ⟨(some 52), 54, .ext 0 (.t 51), none, []⟩, ⟨(some 53), 55, .ext 1 (.t 51), none, []⟩, ⟨none, 1018006, .store 4 (.t 6) (.t 52), none, []⟩, ⟨(some 7), 9, .mv (.t 53), none, []⟩])
  .ret)
  (.seq (.ops [⟨(some 55), 57, .bin .eql (.t 10) (.c (.i .i64 7)), none, []⟩, ⟨(some 54), 56, .mv (.t 55), none, []⟩])
  (.cond (.t 54)
  (.seq (.ops [⟨(some 56), 58, .mv (.t 1), none, []⟩, ⟨(some 57), 59, .mv (.t 2), none, []⟩, ⟨(some 58), 60, .bin .eql (.t 56) (.t 57), none, []⟩, ⟨(some 59), 61, .call 54 [((.t 58), 0)], none, []⟩, ⟨(some 60), 62, .ext 0 (.t 59), none, []⟩, ⟨(some 61), 63, .ext 1 (.t 59), none, []⟩, ⟨none, 1020006, .store 4 (.t 6) (.t 60), none, []⟩, ⟨(some 7), 9, .mv (.t 61), none, []⟩])
  .ret)
  (.seq (.ops [⟨(some 11), 13, .build [(.i .i64 0), (.i .i64 0), (.f 0), (.f 0)] [], none, []⟩, ⟨none, 1003001, .store 4 (.t 6) (.t 11), none, []⟩, ⟨(some 7), 9, .mv (.c (.i .i64 1)), none, []⟩])
  .ret)))))))))))))))
  (.seq (.ops [⟨(some 62), 64, .load true 4 (.t 8), none, []⟩, ⟨none, 1021001, .store 4 (.t 6) (.t 62), none, []⟩, ⟨(some 7), 9, .mv (.c (.i .i64 0)), none, []⟩])
  .ret))))
theorem k58 : compCode Try.prog Try.f58.ntmps Try.f58.body.get! = some c58 := by kernel_rfl
theorem r58 : resTmps Try.prog Try.f58.results.toList = some [.cell 6 true 4, .tmp 7] := by kernel_rfl

def boolV (b : Bool) : ValP := (4, if b then 1 else 0, 0, 0)
theorem w52 (b : Bool) : Contract Try.prog false 52 [.ro] [.b b] [valV (boolV b)] [] := by
  refine mk_contract [] Try.func52 (c := Try.f52.body.get!) (by kernel_rfl) k52 r52 (of_decide_eq_true rfl) fun _ => ?_
  unfold c52; unfold valV boolV; simp
  cases b <;> simp
theorem w54 (b : Bool) : Contract Try.prog false 54 [.ro] [.b b] [valV (boolV b), .i .i64 0] [] := by
  refine mk_contract [] Try.func54 (c := Try.f54.body.get!) (by kernel_rfl) k54 r54 (of_decide_eq_true rfl) fun _ => ?_
  unfold c54; unfold valV boolV; simp
  cases b <;> simp
theorem w53 (x : Nat) : Contract Try.prog false 53 [.ro] [.f x] [valV (2, 0, x, 0), .i .i64 0] [] := by
  refine mk_contract [] Try.func53 (c := Try.f53.body.get!) (by kernel_rfl) k53 r53 (of_decide_eq_true rfl) fun _ => ?_
  unfold c53; unfold valV; simp

def i64in (n : Int) : Prop := -9223372036854775808 ≤ n ∧ n < 9223372036854775808
theorem tmod_w {a b : Int} (ha : i64in a) (h0 : ¬ b = 0) (h1 : ¬ b = -1) : IntKind.i64.wrap (a - IntKind.i64.wrap (IntKind.i64.wrap (a.tdiv b) * b)) = a.tmod b := by
  have e := Int.mul_tdiv_add_tmod a b
  have e1 : (a.tdiv b).natAbs = a.natAbs / b.natAbs := Int.natAbs_tdiv ..
  have e2 : (a.tmod b).natAbs = a.natAbs % b.natAbs := Int.natAbs_tmod ..
  have e3 : a.natAbs % b.natAbs ≤ a.natAbs := Nat.mod_le _ _
  have e4 : a.natAbs / b.natAbs ≤ a.natAbs := Nat.div_le_self _ _
  obtain ⟨ha1, ha2⟩ := ha
  have s1 : 0 ≤ a → 0 ≤ a.tmod b := fun h => Int.tmod_nonneg b h
  have s2 : a ≤ 0 → a.tmod b ≤ 0 := fun h => by
    have := Int.neg_tmod a b
    have := Int.tmod_nonneg (a := -a) b (by omega)
    omega
  have hq : i64in (a.tdiv b) := by
    unfold i64in
    by_cases hb : b.natAbs = 1
    · have : b = 1 := by omega
      subst this
      simp; exact ⟨ha1, ha2⟩
    · have : a.natAbs / b.natAbs ≤ a.natAbs / 2 := Nat.div_le_div_left (by omega) (by omega)
      omega
  have hw1 : IntKind.i64.wrap (a.tdiv b) = a.tdiv b := wrap_id (by have := hq.1; omega) (by have := hq.2; omega)
  rw [hw1, Int.mul_comm]
  generalize b * a.tdiv b = p at *
  generalize a.tmod b = r at *
  rw [wrap_id (n := p) (by omega) (by omega), wrap_id (by omega) (by omega)]
  omega
theorem tdiv_m1 (a : Int) : a.tdiv (-1) = -a := by rw [Int.tdiv_neg, Int.tdiv_one]
theorem tmod_m1 (a : Int) : a.tmod (-1) = 0 := by rw [Int.tmod_neg, Int.tmod_one]
def intOp (op a b : Int) : ValP × Int :=
  if op = 1 then ((1, IntKind.i64.wrap (a + b), 0, 0), 0)
  else if op = 2 then ((1, IntKind.i64.wrap (a - b), 0, 0), 0)
  else if op = 3 then ((1, IntKind.i64.wrap (a * b), 0, 0), 0)
  else if op = 4 then (if b = 0 then ((0, 0, 0, 0), 2) else ((1, IntKind.i64.wrap (a.tdiv b), 0, 0), 0))
  else if op = 5 then (if b = 0 then ((0, 0, 0, 0), 2) else ((1, a.tmod b, 0, 0), 0))
  else if op = 6 then (boolV (decide (a < b)), 0)
  else if op = 7 then (boolV (decide (a = b)), 0)
  else ((0, 0, 0, 0), 1)
theorem w58 (op a b : Int) : Contract Try.prog false 58 [.ro, .ro, .ro] [.i .i64 op, .i .i64 a, .i .i64 b] [valV (intOp op a b).1, .i .i64 (intOp op a b).2] [] := by
  refine mk_contract [] Try.func58 (c := Try.f58.body.get!) (by kernel_rfl) k58 r58 (of_decide_eq_true rfl) fun _ => ?_
  unfold c58; unfold valV intOp; simp
  by_cases o1 : op = 1
  · simp [o1]
  by_cases o2 : op = 2
  · simp [o2]
  by_cases o3 : op = 3
  · simp [o3]
  by_cases o4 : op = 4
  · simp [o4]
    by_cases h : b = 0 <;> simp [h]
  by_cases o5 : op = 5
  · simp [o5]
    by_cases h : b = 0 <;> simp [h]
  by_cases o6 : op = 6
  · simp [o6]
    refine callW_ms [.ro] ?_
    simp
    refine callX_of (w54 _) (by simp) ?_
    simp [valV]
  by_cases o7 : op = 7
  · simp [o7]
    refine callW_ms [.ro] ?_
    simp
    refine callX_of (w54 _) (by simp) ?_
    simp [valV]
  simp [o1, o2, o3, o4, o5, o6, o7]
theorem w55 (op a b : Int) (ha : i64in a) : Contract Try.prog false 55 [.ro, .ro, .ro] [.i .i64 op, .i .i64 a, .i .i64 b] [valV (intOp op a b).1, .i .i64 (intOp op a b).2] [] := by
  refine mk_contract [] Try.func55 (c := Try.f55.body.get!) (by kernel_rfl) k55 r55 (of_decide_eq_true rfl) fun _ => ?_
  unfold c55; unfold valV intOp; simp
  by_cases o1 : op = 1
  · simp [o1]
  by_cases o2 : op = 2
  · simp [o2]
  by_cases o3 : op = 3
  · simp [o3]
  by_cases o4 : op = 4
  · simp [o4]
    by_cases h : b = 0
    · simp [h]
    · by_cases h1 : b = -1
      · simp [h1, tdiv_m1]
      · simp [h, h1]
  by_cases o5 : op = 5
  · simp [o5]
    by_cases h : b = 0
    · simp [h]
    · by_cases h1 : b = -1
      · simp [h1, tmod_m1]
      · simp [h, h1, tmod_w ha h h1]
  by_cases o6 : op = 6
  · simp [o6]
    refine callW_ms [.ro] ?_
    simp
    refine callX_of (w52 _) (by simp) ?_
    simp [valV]
  by_cases o7 : op = 7
  · simp [o7]
    refine callW_ms [.ro] ?_
    simp
    refine callX_of (w52 _) (by simp) ?_
    simp [valV]
  simp [o1, o2, o3, o4, o5, o6, o7]
end Go.Proofs.YtpoalnlkhlchbaaT
