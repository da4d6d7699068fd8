/- Draws of values. -/
import Derived.Test.YtpoalnlkhlchbaaKr0
import Derived.Test.YtpoalnlkhlchbaaKv2
namespace Go.Proofs.YtpoalnlkhlchbaaT
set_option linter.unusedVariables false
set_option linter.unusedSimpArgs false
open Go

/- spec.l1Nan -/
def c76 : TCode := (.seq (.ops [⟨(some 0), 2, .mv (.c (.f 0)), none, []⟩])
  (.seq (.ops [⟨(some 1), 3, .mv (.c (.f 0)), none, []⟩])
  (.seq (.ops [⟨(some 2), 4, .mv (.t 1), none, []⟩, ⟨(some 3), 5, .mv (.t 1), none, []⟩, ⟨(some 4), 6, .bin .quo (.t 2) (.t 3), none, []⟩, ⟨(some 0), 2, .mv (.t 4), none, []⟩])
  .ret)))
theorem k76 : compCode Try.prog Try.f76.ntmps Try.f76.body.get! = some c76 := by kernel_rfl
theorem r76 : resTmps Try.prog Try.f76.results.toList = some [.tmp 0] := by kernel_rfl
/- spec.l1Inf -/
def c77 : TCode := (.seq (.ops [⟨(some 0), 2, .mv (.c (.f 0)), none, []⟩])
  (.seq (.ops [⟨(some 1), 3, .mv (.c (.f 0)), none, []⟩])
  (.seq (.ops [⟨(some 2), 4, .mv (.t 1), none, []⟩, ⟨(some 3), 5, .bin .quo (.c (.f 4607182418800017408)) (.t 2), none, []⟩, ⟨(some 0), 2, .mv (.t 3), none, []⟩])
  .ret)))
theorem k77 : compCode Try.prog Try.f77.ntmps Try.f77.body.get! = some c77 := by kernel_rfl
theorem r77 : resTmps Try.prog Try.f77.results.toList = some [.tmp 0] := by kernel_rfl
/- spec.l1Float -/
def c75 : TCode := (.seq (.ops [⟨(some 2), 4, .mv (.c (.f 0)), none, []⟩])
  (.seq (.seq (.ops [⟨(some 3), 5, .mv (.t 0), none, []⟩, ⟨(some 4), 6, .call 63 [((.t 3), 3), ((.c (.i .i64 12)), 0)], none, []⟩])
  (.block 0 (.seq (.ops [⟨(some 6), 8, .bin .eql (.t 4) (.c (.i .i64 0)), none, []⟩, ⟨(some 5), 7, .mv (.t 6), none, []⟩])
  (.cond (.t 5)
  (.seq (.ops [⟨(some 2), 4, .mv (.c (.f 0)), none, []⟩])
  .ret)
  (.seq (.ops [⟨(some 8), 10, .bin .eql (.t 4) (.c (.i .i64 1)), none, []⟩, ⟨(some 7), 9, .mv (.t 8), none, []⟩])
  (.cond (.t 7)
  (.seq (.ops [⟨(some 9), 11, .mv (.t 0), none, []⟩, ⟨(some 10), 12, .call 63 [((.t 9), 3), ((.c (.i .i64 4)), 0)], none, []⟩, ⟨(some 11), 13, .toF (.t 10), none, []⟩, ⟨(some 12), 14, .bin .mul (.c (.f 4598175219545276416)) (.t 11), none, []⟩, ⟨(some 13), 15, .un .neg (.t 12), none, []⟩, ⟨(some 2), 4, .mv (.t 13), none, []⟩])
  .ret)
  (.seq (.ops [⟨(some 15), 17, .bin .eql (.t 4) (.c (.i .i64 2)), none, []⟩, ⟨(some 14), 16, .mv (.t 15), none, []⟩])
  (.cond (.t 14)
  (.seq (.ops [⟨(some 2), 4, .mv (.c (.f 9094988921128908188)), none, []⟩])
  .ret)
  (.seq (.ops [⟨(some 17), 19, .bin .eql (.t 4) (.c (.i .i64 3)), none, []⟩, ⟨(some 16), 18, .mv (.t 17), none, []⟩])
  (.cond (.t 16)
  (.seq (.seq (.ops [⟨(some 18), 20, .mv (.t 0), none, []⟩, ⟨(some 19), 21, .call 64 [((.t 18), 3), ((.c (.i .i64 3)), 0)], none, []⟩])
  (.cond (.t 19)
  (.seq (.ops [⟨(some 20), 22, .call 76 [], none, []⟩, ⟨(some 2), 4, .mv (.t 20), none, []⟩])
  .ret)
  .skip))
  (.seq (.ops [⟨(some 2), 4, .mv (.c (.f 18438243695727462560)), none, []⟩])
  .ret))
  (.seq (.ops [⟨(some 22), 24, .bin .eql (.t 4) (.c (.i .i64 4)), none, []⟩, ⟨(some 21), 23, .mv (.t 22), none, []⟩])
  (.cond (.t 21)
  (.seq (.seq (.ops [⟨(some 23), 25, .mv (.t 0), none, []⟩, ⟨(some 24), 26, .call 64 [((.t 23), 3), ((.c (.i .i64 2)), 0)], none, []⟩])
  (.cond (.t 24)
  (.seq (.ops [⟨(some 25), 27, .call 77 [], none, []⟩, ⟨(some 2), 4, .mv (.t 25), none, []⟩])
  .ret)
  .skip))
  (.seq (.ops [⟨(some 2), 4, .mv (.c (.f 4591870180066957722)), none, []⟩])
  .ret))
  .skip))))))))))))
  (.seq (.ops [⟨(some 26), 28, .mv (.t 0), none, []⟩, ⟨(some 27), 29, .call 63 [((.t 26), 3), ((.c (.i .i64 4001)), 0)], none, []⟩, ⟨(some 28), 30, .bin .sub (.t 27) (.c (.i .i64 2000)), none, []⟩, ⟨(some 29), 31, .toF (.t 28), none, []⟩, ⟨(some 30), 32, .bin .quo (.t 29) (.c (.f 4620693217682128896)), none, []⟩, ⟨(some 2), 4, .mv (.t 30), none, []⟩])
  .ret)))
theorem k75 : compCode Try.prog Try.f75.ntmps Try.f75.body.get! = some c75 := by kernel_rfl
theorem r75 : resTmps Try.prog Try.f75.results.toList = some [.tmp 2] := by kernel_rfl
/- spec.l1Whole -/
def c74 : TCode := (.seq (.ops [⟨(some 2), 4, .mv (.c (.i .i64 0)), none, []⟩])
  (.seq (.seq (.ops [⟨(some 3), 5, .mv (.t 0), none, []⟩, ⟨(some 4), 6, .call 63 [((.t 3), 3), ((.c (.i .i64 14)), 0)], none, []⟩])
  (.block 0 (.seq (.ops [⟨(some 6), 8, .bin .eql (.t 4) (.c (.i .i64 0)), none, []⟩, ⟨(some 5), 7, .mv (.t 6), none, []⟩])
  (.cond (.t 5)
  (.seq (.ops [⟨(some 2), 4, .mv (.c (.i .i64 (-9223372036854775808))), none, []⟩])
  .ret)
  (.seq (.ops [⟨(some 8), 10, .bin .eql (.t 4) (.c (.i .i64 1)), none, []⟩, ⟨(some 7), 9, .mv (.t 8), none, []⟩])
  (.cond (.t 7)
  (.seq (.ops [⟨(some 2), 4, .mv (.c (.i .i64 9223372036854775807)), none, []⟩])
  .ret)
  (.seq (.ops [⟨(some 10), 12, .bin .eql (.t 4) (.c (.i .i64 2)), none, []⟩, ⟨(some 9), 11, .mv (.t 10), none, []⟩])
  (.cond (.t 9)
  (.seq (.ops [⟨(some 2), 4, .mv (.c (.i .i64 0)), none, []⟩])
  .ret)
  (.seq (.ops [⟨(some 12), 14, .bin .eql (.t 4) (.c (.i .i64 3)), none, []⟩, ⟨(some 11), 13, .mv (.t 12), none, []⟩])
  (.cond (.t 11)
  (.seq (.ops [⟨(some 2), 4, .mv (.c (.i .i64 (-1))), none, []⟩])
  .ret)
  (.seq (.ops [⟨(some 14), 16, .bin .eql (.t 4) (.c (.i .i64 4)), none, []⟩, ⟨(some 13), 15, .mv (.t 14), none, []⟩])
  (.cond (.t 13)
  (.seq (.ops [⟨(some 15), 17, .mv (.t 0), none, []⟩, ⟨(some 16), 18, .call 63 [((.t 15), 3), ((.c (.i .i64 2000000000)), 0)], none, []⟩, ⟨(some 17), 19, .bin .mul (.t 16) (.c (.i .i64 3037000500)), none, []⟩, ⟨(some 2), 4, .mv (.t 17), none, []⟩])
  .ret)
  .skip))))))))))))
  (.seq (.ops [⟨(some 18), 20, .mv (.t 0), none, []⟩, ⟨(some 19), 21, .call 63 [((.t 18), 3), ((.c (.i .i64 41)), 0)], none, []⟩, ⟨(some 20), 22, .bin .sub (.t 19) (.c (.i .i64 12)), none, []⟩, ⟨(some 2), 4, .mv (.t 20), none, []⟩])
  .ret)))
theorem k74 : compCode Try.prog Try.f74.ntmps Try.f74.body.get! = some c74 := by kernel_rfl
theorem r74 : resTmps Try.prog Try.f74.results.toList = some [.tmp 2] := by kernel_rfl
/- spec.l1ValOf -/
def c73 : TCode := (.seq (.ops [⟨(some 4), 6, .mv (.c (.i .i64 0)), none, []⟩, ⟨(some 5), 7, .mv (.c (.f 0)), none, []⟩, ⟨(some 6), 8, .mv (.c (.f 0)), none, []⟩])
  (.seq (.seq (.ops [⟨(some 8), 10, .mv (.t 1), none, []⟩])
  (.block 0 (.seq (.ops [⟨(some 10), 12, .bin .eql (.t 8) (.c (.i .i64 1)), none, []⟩, ⟨(some 9), 11, .mv (.t 10), none, []⟩])
  (.cond (.t 9)
  (.seq (.ops [⟨(some 11), 13, .mv (.t 0), none, []⟩, ⟨(some 12), 14, .call 74 [((.t 11), 3)], none, []⟩, ⟨(some 4), 6, .mv (.t 12), none, []⟩, ⟨(some 5), 7, .mv (.c (.f 0)), none, []⟩, ⟨(some 6), 8, .mv (.c (.f 0)), none, []⟩])
  .ret)
  (.seq (.ops [⟨(some 14), 16, .bin .eql (.t 8) (.c (.i .i64 2)), none, []⟩, ⟨(some 13), 15, .mv (.t 14), none, []⟩])
  (.cond (.t 13)
  (.seq (.ops [⟨(some 15), 17, .mv (.t 0), none, []⟩, ⟨(some 16), 18, .call 75 [((.t 15), 3)], none, []⟩, ⟨(some 4), 6, .mv (.c (.i .i64 0)), none, []⟩, ⟨(some 5), 7, .mv (.t 16), none, []⟩, ⟨(some 6), 8, .mv (.c (.f 0)), none, []⟩])
  .ret)
  (.seq (.ops [⟨(some 18), 20, .bin .eql (.t 8) (.c (.i .i64 3)), none, []⟩, ⟨(some 17), 19, .mv (.t 18), none, []⟩])
  (.cond (.t 17)
  (.seq (.ops [⟨(some 19), 21, .mv (.t 0), none, []⟩, ⟨(some 20), 22, .call 75 [((.t 19), 3)], none, []⟩, ⟨(some 7), 9, .mv (.t 20), none, []⟩])
  (.seq (.ops [⟨(some 21), 23, .mv (.t 7), none, []⟩, ⟨(some 22), 24, .mv (.t 0), none, []⟩, ⟨(some 23), 25, .call 75 [((.t 22), 3)], none, []⟩, ⟨(some 4), 6, .mv (.c (.i .i64 0)), none, []⟩, ⟨(some 5), 7, .mv (.t 21), none, []⟩, ⟨(some 6), 8, .mv (.t 23), none, []⟩])
  .ret))
  .skip))))))))
  (.seq (.ops [⟨(some 24), 26, .mv (.t 0), none, []⟩, ⟨(some 25), 27, .call 63 [((.t 24), 3), ((.c (.i .i64 2)), 0)], none, []⟩, ⟨(some 4), 6, .mv (.t 25), none, []⟩, ⟨(some 5), 7, .mv (.c (.f 0)), none, []⟩, ⟨(some 6), 8, .mv (.c (.f 0)), none, []⟩])
  .ret)))
theorem k73 : compCode Try.prog Try.f73.ntmps Try.f73.body.get! = some c73 := by kernel_rfl
theorem r73 : resTmps Try.prog Try.f73.results.toList = some [.tmp 4, .tmp 5, .tmp 6] := by kernel_rfl
/- spec.l1Val -/
def c66 : TCode := (.seq (.ops [⟨(some 4), 6, .box 4 (.c (.ag [(.i .i64 0), (.i .i64 0), (.f 0), (.f 0)])), none, []⟩])
  (.seq (.ops [⟨(some 9), 11, .mv (.t 0), none, []⟩, ⟨(some 10), 12, .mv (.t 1), none, []⟩, ⟨(some 11), 13, .call 73 [((.t 9), 3), ((.t 10), 0)], none, []⟩, ⟨(some 8), 10, .mv (.t 11), none, []⟩, ⟨(some 12), 14, .ext 0 (.t 8), none, []⟩, ⟨(some 13), 15, .ext 1 (.t 8), none, []⟩, ⟨(some 14), 16, .ext 2 (.t 8), none, []⟩, ⟨(some 5), 7, .mv (.t 12), none, []⟩, ⟨(some 6), 8, .mv (.t 13), none, []⟩, ⟨(some 7), 9, .mv (.t 14), none, []⟩])
  (.seq (.ops [⟨(some 15), 17, .mv (.t 1), none, []⟩, ⟨(some 16), 18, .mv (.t 5), none, []⟩, ⟨(some 17), 19, .mv (.t 6), none, []⟩, ⟨(some 18), 20, .mv (.t 7), none, []⟩, ⟨(some 19), 21, .build [(.i .i64 0), (.i .i64 0), (.f 0), (.f 0)] [(0, 1, (.t 15)), (1, 1, (.t 16)), (2, 1, (.t 17)), (3, 1, (.t 18))], none, []⟩, ⟨none, 1002005, .store 4 (.t 4) (.t 19), none, []⟩])
  .ret)))
theorem k66 : compCode Try.prog Try.f66.ntmps Try.f66.body.get! = some c66 := by kernel_rfl
theorem r66 : resTmps Try.prog Try.f66.results.toList = some [.cell 4 true 4] := by kernel_rfl
/- spec.l1Any -/
def c65 : TCode := (.seq (.ops [⟨(some 2), 4, .box 4 (.c (.ag [(.i .i64 0), (.i .i64 0), (.f 0), (.f 0)])), none, []⟩])
  (.seq (.ops [⟨(some 4), 6, .mv (.t 0), none, []⟩, ⟨(some 5), 7, .mv (.t 0), none, []⟩, ⟨(some 6), 8, .call 63 [((.t 5), 3), ((.c (.i .i64 4)), 0)], none, []⟩, ⟨(some 7), 9, .bin .add (.c (.i .i64 1)) (.t 6), none, []⟩, ⟨(some 8), 10, .call 66 [((.t 4), 3), ((.t 7), 0)], none, []⟩, ⟨(some 3), 5, .box 4 (.c (.ag [(.i .i64 0), (.i .i64 0), (.f 0), (.f 0)])), none, []⟩, ⟨none, 1001006, .store 4 (.t 3) (.t 8), none, []⟩])
  (.seq (.seq (.ops [⟨(some 9), 11, .mv (.t 0), none, []⟩, ⟨(some 10), 12, .call 64 [((.t 9), 3), ((.c (.i .i64 6)), 0)], none, []⟩])
  (.cond (.t 10)
  (.seq (.ops [⟨(some 11), 13, .mv (.t 0), none, []⟩, ⟨(some 12), 14, .call 63 [((.t 11), 3), ((.c (.i .i64 4)), 0)], none, []⟩])
  (.block 0 (.seq (.ops [⟨(some 15), 17, .bin .eql (.t 12) (.c (.i .i64 0)), none, []⟩, ⟨(some 14), 16, .mv (.t 15), none, []⟩])
  (.cond (.t 14)
  (.ops [⟨(some 16), 18, .mv (.t 0), none, []⟩, ⟨(some 17), 19, .call 63 [((.t 16), 3), ((.c (.i .i64 9)), 0)], none, []⟩, ⟨(some 18), 20, .bin .sub (.t 17) (.c (.i .i64 2)), none, []⟩, ⟨(some 19), 21, .faddr 0 1 (.t 3), none, []⟩, ⟨none, 1006004, .store 1 (.t 19) (.t 18), none, []⟩])
  (.seq (.ops [⟨(some 21), 23, .bin .eql (.t 12) (.c (.i .i64 1)), none, []⟩, ⟨(some 20), 22, .mv (.t 21), none, []⟩])
  (.cond (.t 20)
  (.ops [⟨(some 22), 24, .mv (.t 0), none, []⟩, ⟨(some 23), 25, .call 63 [((.t 22), 3), ((.c (.i .i64 5)), 0)], none, []⟩, ⟨(some 24), 26, .bin .sub (.t 23) (.c (.i .i64 1)), none, []⟩, ⟨(some 25), 27, .faddr 1 1 (.t 3), none, []⟩, ⟨none, 1008004, .store 1 (.t 25) (.t 24), none, []⟩])
  (.seq (.ops [⟨(some 27), 29, .bin .eql (.t 12) (.c (.i .i64 2)), none, []⟩, ⟨(some 26), 28, .mv (.t 27), none, []⟩])
  (.cond (.t 26)
  (.ops [⟨(some 28), 30, .mv (.t 0), none, []⟩, ⟨(some 29), 31, .call 63 [((.t 28), 3), ((.c (.i .i64 2)), 0)], none, []⟩, ⟨(some 30), 32, .toF (.t 29), none, []⟩, ⟨(some 31), 33, .bin .mul (.c (.f 4602678819172646912)) (.t 30), none, []⟩, ⟨(some 32), 34, .un .neg (.t 31), none, []⟩, ⟨(some 33), 35, .faddr 3 1 (.t 3), none, []⟩, ⟨none, 1010006, .store 1 (.t 33) (.t 32), none, []⟩])
  (.ops [⟨(some 13), 15, .faddr 2 1 (.t 3), none, []⟩, ⟨none, 1004001, .store 1 (.t 13) (.c (.f 4607182418800017408)), none, []⟩])))))))))
  .skip))
  (.seq (.ops [⟨(some 34), 36, .load true 4 (.t 3), none, []⟩, ⟨none, 1011001, .store 4 (.t 2) (.t 34), none, []⟩])
  .ret))))
theorem k65 : compCode Try.prog Try.f65.ntmps Try.f65.body.get! = some c65 := by kernel_rfl
theorem r65 : resTmps Try.prog Try.f65.results.toList = some [.cell 2 true 4] := by kernel_rfl

theorem dword_lt (s : Bool) (r : Nat) (hr : r < 9223372036854775808) : Ieee.double.word s r < 18446744073709551616 := by
  have h : Ieee.double.signWeight = 9223372036854775808 := by decide
  unfold Ieee.Format.word
  rw [h]
  split <;> omega
theorem dinf : Ieee.double.infRung = 9218868437227405312 := by decide
theorem dbin : Ieee.double.binade = 4503599627370496 := by decide
theorem dnear_lt (s : Bool) (m : Nat) (p : Int) : Ieee.double.nearest s m p < 18446744073709551616 := by
  unfold Ieee.Format.nearest
  split
  · exact dword_lt _ _ (by omega)
  · refine dword_lt _ _ ?_
    rw [dinf]
    omega
theorem dwrite_lt (d : Ieee.Datum) : Ieee.double.write d < 18446744073709551616 := by
  cases d with
  | number s m p => exact dnear_lt s m p
  | infinity s => exact dword_lt _ _ (by rw [dinf]; omega)
  | nan s f =>
    refine dword_lt _ _ ?_
    rw [dinf, dbin]
    omega
theorem fOk_elim {o : Option Ieee.Datum} : fOk ((o.map Ieee.double.write).elim nanC canon) := by
  cases o with
  | none => exact ⟨nanC, by decide, by decide +kernel⟩
  | some d => exact ⟨_, dwrite_lt d, rfl⟩
theorem fOk_mul (x y : Nat) : fOk (fltArith .mul x y) := fOk_elim (o := (Ieee.double.read x).product (Ieee.double.read y))
theorem fOk_quo (x y : Nat) : fOk (fltArith .quo x y) := fOk_elim (o := (Ieee.double.read x).quotient (Ieee.double.fractionBits + 2) (Ieee.double.read y))
theorem fOk_add (x y : Nat) : fOk (fltArith .add x y) := fOk_elim (o := (Ieee.double.read x).sum (Ieee.double.read y))
theorem fOk_sub (x y : Nat) : fOk (fltArith .sub x y) := fOk_elim (o := (Ieee.double.read x).sum (Ieee.double.read y).opposite)
theorem fOk_near (n : Int) : fOk (canon (FloatKind.f64.nearest n)) := ⟨_, dwrite_lt (.number (n < 0) n.natAbs 0), rfl⟩
theorem fOk_neg {x : Nat} (hx : fOk x) : fOk (canon (Op.negFloat .f64 x)) := ⟨_, by
  unfold Op.negFloat
  exact Nat.xor_lt_two_pow (n := 64) (fOk_lt hx) (by decide), rfl⟩
theorem fOk_c1 : fOk 9094988921128908188 := ⟨9094988921128908188, by omega, by decide +kernel⟩
theorem fOk_c2 : fOk 18438243695727462560 := ⟨18438243695727462560, by omega, by decide +kernel⟩
theorem fOk_c3 : fOk 4591870180066957722 := ⟨4591870180066957722, by omega, by decide +kernel⟩
theorem fOk_c4 : fOk 4607182418800017408 := ⟨4607182418800017408, by omega, by decide +kernel⟩
theorem w76  : Contract Try.prog false 76 [] [] [.f (fltArith .quo 0 0)] [] := by
  refine mk_contract [] Try.func76 (c := Try.f76.body.get!) (by kernel_rfl) k76 r76 (of_decide_eq_true rfl) fun _ => ?_
  unfold c76; simp
theorem w77  : Contract Try.prog false 77 [] [] [.f (fltArith .quo 4607182418800017408 0)] [] := by
  refine mk_contract [] Try.func77 (c := Try.f77.body.get!) (by kernel_rfl) k77 r77 (of_decide_eq_true rfl) fun _ => ?_
  unfold c77; simp
def in64 (n : Int) : Prop := -9223372036854775808 ≤ n ∧ n ≤ 9223372036854775807
theorem in64_wrap (n : Int) : in64 (IntKind.i64.wrap n) := by
  unfold in64
  rw [IntKind.wrap_i64]
  omega
theorem in64_small {n : Int} (h0 : -1000 ≤ n) (h1 : n ≤ 1000) : in64 n := ⟨by omega, by omega⟩
set_option maxRecDepth 100000 in
theorem w74 (bs : List Int) (i0 : Nat) (h0 : Int) (hb : bs.length ≤ 2^40) (hi0 : i0 ≤ bs.length) : ∃ x : Nat × Int × Int, (x.1 ≤ bs.length ∧ in64 x.2.2) ∧ Contract Try.prog true 74 [.own] [curT bs i0 h0] [.i .i64 x.2.2] [some (curT bs x.1 x.2.1)] := by
  refine mk_contractE [some [(1, 0)]] Try.func74 (c := Try.f74.body.get!) (by kernel_rfl) k74 r74 (of_decide_eq_true rfl) ?_
  unfold c74; unfold curT; simp
  obtain ⟨⟨i1, h1, y⟩, ⟨a1, b1, c1⟩, hC⟩ := w63 bs i0 h0 14 hb hi0
  simp only at a1 b1 c1 hC
  unfold curT at hC
  refine callW_ms [.own, .ro] ?_
  simp
  refine callX_of hC (by simp) ?_
  simp
  refine ⟨fun h => ?_, fun h => ?_⟩
  · refine exK_of (i1, h1, -9223372036854775808) ⟨a1, ⟨by simp only; omega, by simp only; omega⟩⟩ ?_
    simp
  refine ⟨fun h => ?_, fun h => ?_⟩
  · refine exK_of (i1, h1, 9223372036854775807) ⟨a1, ⟨by simp only; omega, by simp only; omega⟩⟩ ?_
    simp
  refine ⟨fun h => ?_, fun h => ?_⟩
  · refine exK_of (i1, h1, 0) ⟨a1, ⟨by simp only; omega, by simp only; omega⟩⟩ ?_
    simp
  refine ⟨fun h => ?_, fun h => ?_⟩
  · refine exK_of (i1, h1, -1) ⟨a1, ⟨by simp only; omega, by simp only; omega⟩⟩ ?_
    simp
  refine ⟨fun h => ?_, fun h => ?_⟩
  · obtain ⟨⟨i2, h2, y2⟩, ⟨a2, b2, c2⟩, hC2⟩ := w63 bs i1 h1 2000000000 hb a1
    simp only at a2 b2 c2 hC2
    unfold curT at hC2
    refine callW_ms [.own, .ro] ?_
    simp
    refine callX_of hC2 (by simp) ?_
    simp
    refine exK_of (i2, h2, IntKind.i64.wrap (y2 * 3037000500)) ⟨a2, in64_wrap _⟩ ?_
    simp
  · obtain ⟨⟨i2, h2, y2⟩, ⟨a2, b2, c2⟩, hC2⟩ := w63 bs i1 h1 41 hb a1
    simp only at a2 b2 c2 hC2
    unfold curT at hC2
    refine callW_ms [.own, .ro] ?_
    simp
    refine callX_of hC2 (by simp) ?_
    simp
    refine exK_of (i2, h2, IntKind.i64.wrap (y2 - 12)) ⟨a2, in64_wrap _⟩ ?_
    simp
set_option maxRecDepth 100000 in
theorem w75 (bs : List Int) (i0 : Nat) (h0 : Int) (hb : bs.length ≤ 2^40) (hi0 : i0 ≤ bs.length) : ∃ x : Nat × Int × Nat, (x.1 ≤ bs.length ∧ fOk x.2.2) ∧ Contract Try.prog true 75 [.own] [curT bs i0 h0] [.f x.2.2] [some (curT bs x.1 x.2.1)] := by
  refine mk_contractE [some [(1, 0)]] Try.func75 (c := Try.f75.body.get!) (by kernel_rfl) k75 r75 (of_decide_eq_true rfl) ?_
  unfold c75; unfold curT; simp
  obtain ⟨⟨i1, h1, y1⟩, ⟨a1, b1, c1⟩, hC1⟩ := w63 bs i0 h0 12 hb hi0
  simp only at a1 b1 c1 hC1
  unfold curT at hC1
  refine callW_ms [.own, .ro] ?_
  simp
  refine callX_of hC1 (by simp) ?_
  simp
  refine ⟨fun h => ?_, fun h => ?_⟩
  · refine exK_of (i1, h1, 0) ⟨a1, fOk_zero⟩ ?_
    simp
  refine ⟨fun h => ?_, fun h => ?_⟩
  · obtain ⟨⟨i2, h2, y2⟩, ⟨a2, b2, c2⟩, hC2⟩ := w63 bs i1 h1 4 hb a1
    simp only at a2 b2 c2 hC2
    unfold curT at hC2
    refine callW_ms [.own, .ro] ?_
    simp
    refine callX_of hC2 (by simp) ?_
    simp
    refine exK_of (i2, h2, canon (Op.negFloat .f64 (fltArith .mul 4598175219545276416 (canon (FloatKind.f64.nearest y2))))) ⟨a2, fOk_neg (fOk_mul _ _)⟩ ?_
    simp
  refine ⟨fun h => ?_, fun h => ?_⟩
  · refine exK_of (i1, h1, 9094988921128908188) ⟨a1, fOk_c1⟩ ?_
    simp
  refine ⟨fun h => ?_, fun h => ?_⟩
  · obtain ⟨⟨i2, h2, y2⟩, a2, hC2⟩ := w64 bs i1 h1 3 hb a1
    simp only at a2 hC2
    unfold curT at hC2
    refine callW_ms [.own, .ro] ?_
    simp
    refine callX_of hC2 (by simp) ?_
    cases y2 with
    | true =>
      simp
      refine callW_ms [] ?_
      simp
      refine callX_of w76 (by simp) ?_
      simp
      refine exK_of (i2, h2, fltArith .quo 0 0) ⟨a2, fOk_quo 0 0⟩ ?_
      simp
    | false =>
      simp
      refine exK_of (i2, h2, 18438243695727462560) ⟨a2, fOk_c2⟩ ?_
      simp
  refine ⟨fun h => ?_, fun h => ?_⟩
  · obtain ⟨⟨i2, h2, y2⟩, a2, hC2⟩ := w64 bs i1 h1 2 hb a1
    simp only at a2 hC2
    unfold curT at hC2
    refine callW_ms [.own, .ro] ?_
    simp
    refine callX_of hC2 (by simp) ?_
    cases y2 with
    | true =>
      simp
      refine callW_ms [] ?_
      simp
      refine callX_of w77 (by simp) ?_
      simp
      refine exK_of (i2, h2, fltArith .quo 4607182418800017408 0) ⟨a2, fOk_quo 4607182418800017408 0⟩ ?_
      simp
    | false =>
      simp
      refine exK_of (i2, h2, 4591870180066957722) ⟨a2, fOk_c3⟩ ?_
      simp
  · obtain ⟨⟨i2, h2, y2⟩, ⟨a2, b2, c2⟩, hC2⟩ := w63 bs i1 h1 4001 hb a1
    simp only at a2 b2 c2 hC2
    unfold curT at hC2
    refine callW_ms [.own, .ro] ?_
    simp
    refine callX_of hC2 (by simp) ?_
    simp
    refine exK_of (i2, h2, fltArith .quo (canon (FloatKind.f64.nearest (IntKind.i64.wrap (y2 - 2000)))) 4620693217682128896) ⟨a2, fOk_quo _ _⟩ ?_
    simp
set_option maxRecDepth 100000 in
theorem w73 (bs : List Int) (i0 : Nat) (h0 k : Int) (hb : bs.length ≤ 2^40) (hi0 : i0 ≤ bs.length) : ∃ x : Nat × Int × Int × Nat × Nat, (x.1 ≤ bs.length ∧ fOk x.2.2.2.1 ∧ fOk x.2.2.2.2 ∧ in64 x.2.2.1) ∧ Contract Try.prog true 73 [.own, .ro] [curT bs i0 h0, .i .i64 k] [.i .i64 x.2.2.1, .f x.2.2.2.1, .f x.2.2.2.2] [some (curT bs x.1 x.2.1)] := by
  refine mk_contractE [some [(1, 0)]] Try.func73 (c := Try.f73.body.get!) (by kernel_rfl) k73 r73 (of_decide_eq_true rfl) ?_
  unfold c73; unfold curT; simp
  refine ⟨fun h => ?_, fun h => ?_⟩
  · obtain ⟨⟨i1, h1, y1⟩, ⟨a1, g1⟩, hC1⟩ := w74 bs i0 h0 hb hi0
    simp only at a1 hC1
    unfold curT at hC1
    refine callW_ms [.own] ?_
    simp
    refine callX_of hC1 (by simp) ?_
    simp
    refine exK_of (i1, h1, y1, 0, 0) ⟨a1, fOk_zero, fOk_zero, g1⟩ ?_
    simp
  refine ⟨fun h => ?_, fun h => ?_⟩
  · obtain ⟨⟨i1, h1, y1⟩, ⟨a1, b1⟩, hC1⟩ := w75 bs i0 h0 hb hi0
    simp only at a1 hC1
    unfold curT at hC1
    refine callW_ms [.own] ?_
    simp
    refine callX_of hC1 (by simp) ?_
    simp
    refine exK_of (i1, h1, 0, y1, 0) ⟨a1, b1, fOk_zero, in64_small (by simp only; omega) (by simp only; omega)⟩ ?_
    simp
  refine ⟨fun h => ?_, fun h => ?_⟩
  · obtain ⟨⟨i1, h1, y1⟩, ⟨a1, b1⟩, hC1⟩ := w75 bs i0 h0 hb hi0
    simp only at a1 hC1
    unfold curT at hC1
    refine callW_ms [.own] ?_
    simp
    refine callX_of hC1 (by simp) ?_
    simp
    obtain ⟨⟨i2, h2, y2⟩, ⟨a2, b2⟩, hC2⟩ := w75 bs i1 h1 hb a1
    simp only at a2 hC2
    unfold curT at hC2
    refine callW_ms [.own] ?_
    simp
    refine callX_of hC2 (by simp) ?_
    simp
    refine exK_of (i2, h2, 0, y1, y2) ⟨a2, b1, b2, in64_small (by simp only; omega) (by simp only; omega)⟩ ?_
    simp
  · obtain ⟨⟨i1, h1, y1⟩, ⟨a1, b1, c1⟩, hC1⟩ := w63 bs i0 h0 2 hb hi0
    simp only at a1 b1 c1 hC1
    unfold curT at hC1
    refine callW_ms [.own, .ro] ?_
    simp
    refine callX_of hC1 (by simp) ?_
    simp
    refine exK_of (i1, h1, y1, 0, 0) ⟨a1, fOk_zero, fOk_zero, in64_small (by simp only; omega) (by have := c1 (by omega); simp only; omega)⟩ ?_
    simp
set_option maxRecDepth 100000 in
theorem w66 (bs : List Int) (i0 : Nat) (h0 k : Int) (hb : bs.length ≤ 2^40) (hi0 : i0 ≤ bs.length) : ∃ x : Nat × Int × ValP, (x.1 ≤ bs.length ∧ valOkF x.2.2 ∧ in64 x.2.2.2.1) ∧ Contract Try.prog true 66 [.own, .ro] [curT bs i0 h0, .i .i64 k] [valV x.2.2] [some (curT bs x.1 x.2.1)] := by
  refine mk_contractE [some [(1, 0)]] Try.func66 (c := Try.f66.body.get!) (by kernel_rfl) k66 r66 (of_decide_eq_true rfl) ?_
  unfold c66; unfold curT valV; simp
  obtain ⟨⟨i1, h1, y, f1, f2⟩, ⟨a1, b1, c1, g1⟩, hC1⟩ := w73 bs i0 h0 k hb hi0
  simp only at a1 b1 c1 hC1
  unfold curT at hC1
  refine callW_ms [.own, .ro] ?_
  simp
  refine callX_of hC1 (by simp) ?_
  simp
  refine exK_of (i1, h1, (k, y, f1, f2)) ⟨a1, ⟨b1, c1⟩, g1⟩ ?_
  simp
set_option maxRecDepth 100000 in
theorem w65 (bs : List Int) (i0 : Nat) (h0 : Int) (hb : bs.length ≤ 2^40) (hi0 : i0 ≤ bs.length) : ∃ x : Nat × Int × ValP, (x.1 ≤ bs.length ∧ valOkF x.2.2 ∧ in64 x.2.2.2.1) ∧ Contract Try.prog true 65 [.own] [curT bs i0 h0] [valV x.2.2] [some (curT bs x.1 x.2.1)] := by
  refine mk_contractE [some [(1, 0)]] Try.func65 (c := Try.f65.body.get!) (by kernel_rfl) k65 r65 (of_decide_eq_true rfl) ?_
  unfold c65; unfold curT valV; simp
  obtain ⟨⟨i1, h1, y1⟩, ⟨a1, b1, c1⟩, hC1⟩ := w63 bs i0 h0 4 hb hi0
  simp only at a1 b1 c1 hC1
  unfold curT at hC1
  refine callW_ms [.own, .ro] ?_
  simp
  refine callX_of hC1 (by simp) ?_
  simp
  obtain ⟨⟨i2, h2, v2⟩, ⟨a2, b2, g2⟩, hC2⟩ := w66 bs i1 h1 (IntKind.i64.wrap (1 + y1)) hb a1
  simp only at a2 b2 hC2
  unfold curT valV at hC2
  refine callW_ms [.own, .ro] ?_
  simp
  refine callX_of hC2 (by simp) ?_
  simp
  obtain ⟨⟨i3, h3, y3⟩, a3, hC3⟩ := w64 bs i2 h2 6 hb a2
  simp only at a3 hC3
  unfold curT at hC3
  refine callW_ms [.own, .ro] ?_
  simp
  refine callX_of hC3 (by simp) ?_
  cases y3 with
  | false =>
    simp
    refine exK_of (i3, h3, v2) ⟨a3, b2, g2⟩ ?_
    simp
  | true =>
    simp
    obtain ⟨⟨i4, h4, y4⟩, ⟨a4, b4, c4⟩, hC4⟩ := w63 bs i3 h3 4 hb a3
    simp only at a4 b4 c4 hC4
    unfold curT at hC4
    refine callW_ms [.own, .ro] ?_
    simp
    refine callX_of hC4 (by simp) ?_
    simp
    refine ⟨fun h => ?_, fun h => ?_⟩
    · obtain ⟨⟨i5, h5, y5⟩, ⟨a5, b5, c5⟩, hC5⟩ := w63 bs i4 h4 9 hb a4
      simp only at a5 b5 c5 hC5
      unfold curT at hC5
      refine callW_ms [.own, .ro] ?_
      simp
      refine callX_of hC5 (by simp) ?_
      simp
      refine exK_of (i5, h5, (IntKind.i64.wrap (y5 - 2), v2.2.1, v2.2.2.1, v2.2.2.2)) ⟨a5, ⟨b2.1, b2.2⟩, g2⟩ ?_
      simp
    refine ⟨fun h => ?_, fun h => ?_⟩
    · obtain ⟨⟨i5, h5, y5⟩, ⟨a5, b5, c5⟩, hC5⟩ := w63 bs i4 h4 5 hb a4
      simp only at a5 b5 c5 hC5
      unfold curT at hC5
      refine callW_ms [.own, .ro] ?_
      simp
      refine callX_of hC5 (by simp) ?_
      simp
      refine exK_of (i5, h5, (v2.1, IntKind.i64.wrap (y5 - 1), v2.2.2.1, v2.2.2.2)) ⟨a5, ⟨b2.1, b2.2⟩, in64_wrap _⟩ ?_
      simp
    refine ⟨fun h => ?_, fun h => ?_⟩
    · obtain ⟨⟨i5, h5, y5⟩, ⟨a5, b5, c5⟩, hC5⟩ := w63 bs i4 h4 2 hb a4
      simp only at a5 b5 c5 hC5
      unfold curT at hC5
      refine callW_ms [.own, .ro] ?_
      simp
      refine callX_of hC5 (by simp) ?_
      simp
      refine exK_of (i5, h5, (v2.1, v2.2.1, v2.2.2.1, canon (Op.negFloat .f64 (fltArith .mul 4602678819172646912 (canon (FloatKind.f64.nearest y5)))))) ⟨a5, ⟨b2.1, fOk_neg (fOk_mul _ _)⟩, g2⟩ ?_
      simp
    · refine exK_of (i4, h4, (v2.1, v2.2.1, 4607182418800017408, v2.2.2.2)) ⟨a4, ⟨fOk_c4, b2.2⟩, g2⟩ ?_
      simp
end Go.Proofs.YtpoalnlkhlchbaaT
