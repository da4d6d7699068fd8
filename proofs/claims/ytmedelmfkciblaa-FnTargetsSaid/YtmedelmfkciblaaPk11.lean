/- Texts of this session's own, one behind the other: Kv0, Kv1, Kv2, Kw1, Kb, Kc, Kd, Ke, Kf, Kg, Kx1, Ku1, Ku2. -/
import Derived.Test.YtmedelmfkciblaaPk10
import Derived.Tactics2
import Derived.Laws.Externs
namespace Go.Proofs.YtmedelmfkciblaaT
set_option linter.unusedVariables false
set_option linter.unusedSimpArgs false
open Go
end Go.Proofs.YtmedelmfkciblaaT


namespace Go.Proofs.YtmedelmfkciblaaT
set_option linter.unusedVariables false
set_option linter.unusedSimpArgs false
open Go
def c187 : TCode := (.seq (.ops [⟨(some 2), 4, .mv (.c (.b false)), none, []⟩])
 (.seq (.ops [⟨(some 3), 5, .mv (.t 0), none, []⟩, ⟨(some 4), 6, .bin .eql (.t 3) (.c (.f 0)), none, []⟩, ⟨(some 5), 7, .mv (.t 4), none, []⟩, ⟨(some 6), 8, .mv (.t 0), (some (5, true)), []⟩, ⟨(some 7), 9, .bin .quo (.c (.f 4607182418800017408)) (.t 6), (some (5, true)), []⟩, ⟨(some 8), 10, .bin .gtr (.t 7) (.c (.f 0)), (some (5, true)), []⟩, ⟨(some 9), 11, .pick (.t 5) (.t 8) (.c (.b false)), none, []⟩, ⟨(some 2), 4, .mv (.t 9), none, []⟩])
 .ret))
theorem k187 : compCode Try.prog Try.f187.ntmps Try.f187.body.get! = some c187 := by kernel_rfl
theorem r187 : resTmps Try.prog Try.f187.results.toList = some [.tmp 2] := by kernel_rfl
theorem w187 (x : Nat) (hx : fOk x) : Contract Try.prog false 187 [.ro] [.f x] [.b (decide (x = 0))] [] := by
 refine mk_contract [] Try.func187 (c := Try.f187.body.get!) (by kernel_rfl) k187 r187 (of_decide_eq_true rfl) fun _ => ?_
 unfold c187; simp [feqz hx]
 by_cases h0 : x = 0
 ·subst h0; simp [inv_zero, gt_infb]
 by_cases h1 : x = 9223372036854775808
 ·subst h1; simp [inv_mzero, gt_minfb]
 simp [h0, h1]
abbrev ValP := Int × Int × Nat × Nat
def valOkF (v : ValP) : Prop := fOk v.2.2.1 ∧ fOk v.2.2.2
@[simp] def vT (v : ValP) : List TV := [.i .i64 v.1, .i .i64 v.2.1, .f v.2.2.1, .f v.2.2.2]
@[simp] theorem fzL_vT (v : ValP) : fzL (vT v) = vT v := rfl
@[simp] theorem fzLL_vT (l : List (ValP)) : fzLL (l.map vT) = l.map vT := fzLL_map fzL_vT l
@[simp] theorem noROLL_vT (l : List (ValP)) : noROLL (l.map vT) = true := noROLL_map (fun _ => rfl) l
def valV (v : ValP) : TV := .ag [.i .i64 v.1, .i .i64 v.2.1, .f v.2.2.1, .f v.2.2.2]
end Go.Proofs.YtmedelmfkciblaaT


namespace Go.Proofs.YtmedelmfkciblaaT
set_option linter.unusedVariables false
set_option linter.unusedSimpArgs false
open Go
def c146 : TCode := (.seq (.ops [⟨(some 1), 3, .box 4 (.t 0), none, []⟩, ⟨(some 2), 4, .mv (.c (.b false)), none, []⟩])
 (.seq (.seq (.ops [⟨(some 3), 5, .faddr 0 1 (.t 1), none, []⟩, ⟨(some 4), 6, .load false 1 (.t 3), none, []⟩])
 (.block 0 (.seq (.ops [⟨(some 6), 8, .bin .eql (.t 4) (.c (.i .i64 1)), none, []⟩, ⟨(some 5), 7, .mv (.t 6), none, []⟩])
 (.cond (.t 5)
 (.seq (.ops [⟨(some 7), 9, .faddr 2 1 (.t 1), none, []⟩, ⟨(some 8), 10, .load false 1 (.t 7), none, []⟩, ⟨(some 9), 11, .call 187 [((.t 8), 0)], none, []⟩, ⟨(some 10), 12, .mv (.t 9), none, []⟩, ⟨(some 11), 13, .faddr 3 1 (.t 1), (some (10, true)), []⟩, ⟨(some 12), 14, .load false 1 (.t 11), (some (10, true)), []⟩, ⟨(some 13), 15, .call 187 [((.t 12), 0)], (some (10, true)), []⟩, ⟨(some 14), 16, .pick (.t 10) (.t 13) (.c (.b false)), none, []⟩, ⟨(some 2), 4, .mv (.t 14), none, []⟩])
 .ret)
 (.seq (.ops [⟨(some 16), 18, .bin .eql (.t 4) (.c (.i .i64 2)), none, []⟩, ⟨(some 15), 17, .mv (.t 16), none, []⟩])
 (.cond (.t 15)
 (.seq (.ops [⟨(some 17), 19, .faddr 1 1 (.t 1), none, []⟩, ⟨(some 18), 20, .load false 1 (.t 17), none, []⟩, ⟨(some 19), 21, .bin .eql (.t 18) (.c (.i .i64 0)), none, []⟩, ⟨(some 20), 22, .mv (.t 19), none, []⟩, ⟨(some 21), 23, .faddr 3 1 (.t 1), (some (20, true)), []⟩, ⟨(some 22), 24, .load false 1 (.t 21), (some (20, true)), []⟩, ⟨(some 23), 25, .call 187 [((.t 22), 0)], (some (20, true)), []⟩, ⟨(some 24), 26, .pick (.t 20) (.t 23) (.c (.b false)), none, []⟩, ⟨(some 2), 4, .mv (.t 24), none, []⟩])
 .ret)
 (.seq (.ops [⟨(some 26), 28, .bin .eql (.t 4) (.c (.i .i64 3)), none, []⟩, ⟨(some 25), 27, .mv (.t 26), none, []⟩])
 (.cond (.t 25)
 (.seq (.ops [⟨(some 27), 29, .faddr 1 1 (.t 1), none, []⟩, ⟨(some 28), 30, .load false 1 (.t 27), none, []⟩, ⟨(some 29), 31, .bin .eql (.t 28) (.c (.i .i64 0)), none, []⟩, ⟨(some 2), 4, .mv (.t 29), none, []⟩])
 .ret)
 (.seq (.ops [⟨(some 31), 33, .bin .eql (.t 4) (.c (.i .i64 4)), none, []⟩, ⟨(some 30), 32, .mv (.t 31), none, []⟩])
 (.cond (.t 30)
 (.seq (.ops [⟨(some 32), 34, .faddr 1 1 (.t 1), none, []⟩, ⟨(some 33), 35, .load false 1 (.t 32), none, []⟩, ⟨(some 34), 36, .bin .eql (.t 33) (.c (.i .i64 0)), none, []⟩, ⟨(some 35), 37, .mv (.t 34), none, []⟩, ⟨(some 36), 38, .faddr 1 1 (.t 1), (some (35, false)), []⟩, ⟨(some 37), 39, .load false 1 (.t 36), (some (35, false)), []⟩, ⟨(some 38), 40, .bin .eql (.t 37) (.c (.i .i64 1)), (some (35, false)), []⟩, ⟨(some 39), 41, .pick (.t 35) (.c (.b true)) (.t 38), none, []⟩, ⟨(some 40), 42, .mv (.t 39), none, []⟩, ⟨(some 41), 43, .faddr 2 1 (.t 1), (some (40, true)), []⟩, ⟨(some 42), 44, .load false 1 (.t 41), (some (40, true)), []⟩, ⟨(some 43), 45, .call 187 [((.t 42), 0)], (some (40, true)), []⟩, ⟨(some 44), 46, .pick (.t 40) (.t 43) (.c (.b false)), none, []⟩, ⟨(some 45), 47, .mv (.t 44), none, []⟩, ⟨(some 46), 48, .faddr 3 1 (.t 1), (some (45, true)), []⟩, ⟨(some 47), 49, .load false 1 (.t 46), (some (45, true)), []⟩, ⟨(some 48), 50, .call 187 [((.t 47), 0)], (some (45, true)), []⟩, ⟨(some 49), 51, .pick (.t 45) (.t 48) (.c (.b false)), none, []⟩, ⟨(some 2), 4, .mv (.t 49), none, []⟩])
 .ret)
 .skip))))))))))
 (.seq (.ops [⟨(some 2), 4, .mv (.c (.b false)), none, []⟩])
 .ret)))
theorem k146 : compCode Try.prog Try.f146.ntmps Try.f146.body.get! = some c146 := by kernel_rfl
theorem r146 : resTmps Try.prog Try.f146.results.toList = some [.tmp 2] := by kernel_rfl
def c124 : TCode := (.seq (.ops [⟨(some 2), 4, .box 4 (.c (.ag [(.i .i64 0), (.i .i64 0), (.f 0), (.f 0)])), none, []⟩])
 (.seq (.seq (.ops [⟨(some 3), 5, .mv (.t 0), none, []⟩, ⟨(some 4), 6, .call 87 [((.t 3), 0), ((.c (.i .i64 1)), 0), ((.c (.i .i64 4)), 0)], none, []⟩, ⟨(some 5), 7, .un .not (.t 4), none, []⟩])
 (.cond (.t 5)
 (.seq (.ops [⟨(some 6), 8, .build [(.i .i64 0), (.i .i64 0), (.f 0), (.f 0)] [], none, []⟩, ⟨none, 1002001, .store 4 (.t 2) (.t 6), none, []⟩])
 .ret)
 .skip))
 (.seq (.ops [⟨(some 7), 9, .mv (.t 0), none, []⟩, ⟨(some 8), 10, .build [(.i .i64 0), (.i .i64 0), (.f 0), (.f 0)] [(0, 1, (.t 7))], none, []⟩, ⟨none, 1003002, .store 4 (.t 2) (.t 8), none, []⟩])
 .ret)))
theorem k124 : compCode Try.prog Try.f124.ntmps Try.f124.body.get! = some c124 := by kernel_rfl
theorem r124 : resTmps Try.prog Try.f124.results.toList = some [.cell 2 true 4] := by kernel_rfl
def ValOkP (v : ValP) : Prop := (v.1 = 1 ∧ v.2.2.1 = 0 ∧ v.2.2.2 = 0) ∨ (v.1 = 2 ∧ v.2.1 = 0 ∧ v.2.2.2 = 0) ∨ (v.1 = 3 ∧ v.2.1 = 0) ∨ (v.1 = 4 ∧ (v.2.1 = 0 ∨ v.2.1 = 1) ∧ v.2.2.1 = 0 ∧ v.2.2.2 = 0)
instance (v : ValP) : Decidable (ValOkP v) := by unfold ValOkP; infer_instance
theorem w146 (v : ValP) (hv : valOkF v) : Contract Try.prog false 146 [.ro] [valV v] [.b (decide (ValOkP v))] [] := by
 refine mk_contract [] Try.func146 (c := Try.f146.body.get!) (by kernel_rfl) k146 r146 (of_decide_eq_true rfl) fun _ => ?_
 unfold c146; unfold valV ValOkP; simp
 by_cases k1 : v.1 = 1
 ·simp [k1]
  by_cases h1 : v.2.2.1 = 0
  ·refine callW_ms [.ro] ?_
   simp
   refine callX_of ((w187 _ hv.1).t h1) (by simp) ?_
   simp
   refine callW_ms [.ro] ?_
   simp
   refine callX_of (w187 _ hv.2) (by simp) ?_
   simp [h1]
  ·refine callW_ms [.ro] ?_
   simp
   refine callX_of ((w187 _ hv.1).f h1) (by simp) ?_
   simp [h1]
 by_cases k2 : v.1 = 2
 ·simp [k2]
  by_cases h1 : v.2.1 = 0
  ·simp [h1]
   refine callW_ms [.ro] ?_
   simp
   refine callX_of (w187 _ hv.2) (by simp) ?_
   simp [h1]
  ·simp [h1]
 by_cases k3 : v.1 = 3
 ·simp [k3]
 by_cases k4 : v.1 = 4
 ·simp [k4]
  by_cases hi : v.2.1 = 0
  ·simp [hi]
   by_cases h1 : v.2.2.1 = 0
   ·refine callW_ms [.ro] ?_
    simp
    refine callX_of ((w187 _ hv.1).t h1) (by simp) ?_
    simp
    refine callW_ms [.ro] ?_
    simp
    refine callX_of (w187 _ hv.2) (by simp) ?_
    simp [h1]
   ·refine callW_ms [.ro] ?_
    simp
    refine callX_of ((w187 _ hv.1).f h1) (by simp) ?_
    simp [h1]
  ·by_cases hi1 : v.2.1 = 1
   ·simp [hi, hi1]
    by_cases h1 : v.2.2.1 = 0
    ·refine callW_ms [.ro] ?_
     simp
     refine callX_of ((w187 _ hv.1).t h1) (by simp) ?_
     simp
     refine callW_ms [.ro] ?_
     simp
     refine callX_of (w187 _ hv.2) (by simp) ?_
     simp [h1]
    ·refine callW_ms [.ro] ?_
     simp
     refine callX_of ((w187 _ hv.1).f h1) (by simp) ?_
     simp [h1]
   ·simp [hi, hi1]
 simp [k1, k2, k3, k4]
def zeroV (k : Int) : ValP := if 1 ≤ k ∧ k ≤ 4 then (k, 0, 0, 0) else (0, 0, 0, 0)
theorem w124 (k : Int) : Contract Try.prog false 124 [.ro] [.i .i64 k] [valV (zeroV k)] [] := by
 refine mk_contract [] Try.func124 (c := Try.f124.body.get!) (by kernel_rfl) k124 r124 (of_decide_eq_true rfl) fun _ => ?_
 unfold c124; unfold valV zeroV; simp
 by_cases h : 1 ≤ k ∧ k ≤ 4
 ·refine callW_ms [.ro, .ro, .ro] ?_
  simp
  refine callX_of ((w87 k 1 4).t h) (by simp) ?_
  simp [h]
 ·refine callW_ms [.ro, .ro, .ro] ?_
  simp
  refine callX_of ((w87 k 1 4).f h) (by simp) ?_
  simp [h]
end Go.Proofs.YtmedelmfkciblaaT


namespace Go.Proofs.YtmedelmfkciblaaT
set_option linter.unusedVariables false
set_option linter.unusedSimpArgs false
open Go
end Go.Proofs.YtmedelmfkciblaaT


namespace Go.Proofs.YtmedelmfkciblaaT
set_option linter.unusedVariables false
set_option linter.unusedSimpArgs false
open Go
def c234 : TCode := (.seq (.ops [⟨(some 1), 3, .box 2 (.t 0), none, []⟩, ⟨(some 2), 4, .mv (.c (.b false)), none, []⟩])
 (.seq (.ops [⟨(some 8), 10, .faddr 0 1 (.t 1), none, []⟩, ⟨(some 9), 11, .load false 1 (.t 8), none, []⟩, ⟨(some 10), 12, .len false (.t 9), none, []⟩, ⟨(some 3), 5, .mv (.t 10), none, []⟩])
 (.seq (.seq (.ops [⟨(some 11), 13, .mv (.t 3), none, []⟩, ⟨(some 12), 14, .bin .gtr (.t 11) (.c (.i .i64 2000)), none, []⟩, ⟨(some 13), 15, .mv (.t 12), none, []⟩, ⟨(some 14), 16, .faddr 1 1 (.t 1), (some (13, false)), []⟩, ⟨(some 15), 17, .load false 1 (.t 14), (some (13, false)), []⟩, ⟨(some 16), 18, .len false (.t 15), (some (13, false)), []⟩, ⟨(some 17), 19, .mv (.t 3), (some (13, false)), []⟩, ⟨(some 18), 20, .bin .gtr (.t 16) (.t 17), (some (13, false)), []⟩, ⟨(some 19), 21, .pick (.t 13) (.c (.b true)) (.t 18), none, []⟩])
 (.cond (.t 19)
 (.seq (.ops [⟨(some 2), 4, .mv (.c (.b false)), none, []⟩])
 .ret)
 .skip))
 (.seq (.seq (.ops [⟨(some 4), 6, .mv (.c (.i .i64 0)), none, []⟩])
 (.block 0 (.loop (.seq (.seq (.ops [⟨(some 20), 22, .mv (.t 4), none, []⟩, ⟨(some 21), 23, .mv (.t 3), none, []⟩, ⟨(some 22), 24, .bin .lss (.t 20) (.t 21), none, []⟩])
 (.cond (.t 22)
 .skip
 (.exit 0)))
 (.seq (.block 1 (.seq (.ops [⟨(some 25), 27, .faddr 0 1 (.t 1), none, []⟩, ⟨(some 26), 28, .load false 1 (.t 25), none, []⟩, ⟨(some 27), 29, .mv (.t 4), none, []⟩, ⟨(some 28), 30, .iaddr 1 (.t 26) (.t 27), none, []⟩, ⟨(some 29), 31, .load false 1 (.t 28), none, []⟩, ⟨(some 30), 32, .call 87 [((.t 29), 0), ((.c (.i .i64 0)), 0), ((.c (.i .i64 1000000)), 0)], none, []⟩, ⟨(some 31), 33, .un .not (.t 30), none, []⟩])
 (.cond (.t 31)
 (.seq (.ops [⟨(some 2), 4, .mv (.c (.b false)), none, []⟩])
 .ret)
 .skip)))
 (.ops [⟨(some 23), 25, .mv (.t 4), none, []⟩, ⟨(some 24), 26, .bin .add (.t 23) (.c (.i .i64 1)), none, []⟩, ⟨(some 4), 6, .mv (.t 24), none, []⟩]))))))
 (.seq (.ops [⟨(some 32), 34, .mv (.t 3), none, []⟩, ⟨(some 33), 35, .mkslice 1 1 [(.b false)] (.t 32) (.t 32), none, []⟩, ⟨(some 5), 7, .mv (.t 33), none, []⟩])
 (.seq (.seq (.ops [⟨(some 6), 8, .mv (.c (.i .i64 0)), none, []⟩])
 (.block 2 (.loop (.seq (.seq (.ops [⟨(some 34), 36, .mv (.t 6), none, []⟩, ⟨(some 35), 37, .faddr 1 1 (.t 1), none, []⟩, ⟨(some 36), 38, .load false 1 (.t 35), none, []⟩, ⟨(some 37), 39, .len false (.t 36), none, []⟩, ⟨(some 38), 40, .bin .lss (.t 34) (.t 37), none, []⟩])
 (.cond (.t 38)
 .skip
 (.exit 2)))
 (.seq (.block 3 (.seq (.ops [⟨(some 41), 43, .faddr 1 1 (.t 1), none, []⟩, ⟨(some 42), 44, .load false 1 (.t 41), none, []⟩, ⟨(some 43), 45, .mv (.t 6), none, []⟩, ⟨(some 44), 46, .iaddr 1 (.t 42) (.t 43), none, []⟩, ⟨(some 45), 47, .load false 1 (.t 44), none, []⟩, ⟨(some 7), 9, .mv (.t 45), none, []⟩])
 (.seq (.seq (.ops [⟨(some 46), 48, .mv (.t 7), none, []⟩, ⟨(some 47), 49, .mv (.t 3), none, []⟩, ⟨(some 48), 50, .bin .sub (.t 47) (.c (.i .i64 1)), none, []⟩, ⟨(some 49), 51, .call 87 [((.t 46), 0), ((.c (.i .i64 0)), 0), ((.t 48), 0)], none, []⟩, ⟨(some 50), 52, .un .not (.t 49), none, []⟩, ⟨(some 51), 53, .mv (.t 50), none, []⟩, ⟨(some 52), 54, .mv (.t 5), (some (51, false)), []⟩, ⟨(some 53), 55, .mv (.t 7), (some (51, false)), []⟩, ⟨(some 54), 56, .iaddr 1 (.t 52) (.t 53), (some (51, false)), []⟩, ⟨(some 55), 57, .load false 1 (.t 54), (some (51, false)), []⟩, ⟨(some 56), 58, .pick (.t 51) (.c (.b true)) (.t 55), none, []⟩])
 (.cond (.t 56)
 (.seq (.ops [⟨(some 2), 4, .mv (.c (.b false)), none, []⟩])
 .ret)
 .skip))
 (.ops [⟨(some 57), 59, .mv (.t 5), none, []⟩, ⟨(some 58), 60, .mv (.t 7), none, []⟩, ⟨(some 59), 61, .iaddr 1 (.t 57) (.t 58), none, []⟩, ⟨none, 1016003, .store 1 (.t 59) (.c (.b true)), none, []⟩]))))
 (.ops [⟨(some 39), 41, .mv (.t 6), none, []⟩, ⟨(some 40), 42, .bin .add (.t 39) (.c (.i .i64 1)), none, []⟩, ⟨(some 6), 8, .mv (.t 40), none, []⟩]))))))
 (.seq (.ops [⟨(some 2), 4, .mv (.c (.b true)), none, []⟩])
 .ret)))))))
theorem k234 : compCode Try.prog Try.f234.ntmps Try.f234.body.get! = some c234 := by kernel_rfl
theorem r234 : resTmps Try.prog Try.f234.results.toList = some [.tmp 2] := by kernel_rfl
def entsR (g f : List Int) : TV := .ag [.sl false 1 (g.map iT), .sl false 1 (f.map iT)]
def entsO (g f : List Int) : TV := .ag [.sl true 1 (g.map iT), .sl true 1 (f.map iT)]
def freeOk (n : Nat) (f : List Int) : Prop := (∀ x ∈ f, 0 ≤ x ∧ x < n) ∧ f.Nodup
instance (n : Nat) (f : List Int) : Decidable (freeOk n f) := by unfold freeOk; infer_instance
def freeL (n : Nat) (f : List Int) : List Bool := (List.range n).map fun (i : Nat) => decide ((i : Int) ∈ f)
@[simp] theorem freeL_len (n : Nat) (f : List Int) : (freeL n f).length = n := by simp [freeL]
theorem freeL_get {n : Nat} {f : List Int} {x : Int} (h0 : 0 ≤ x) (h1 : x < n) : (freeL n f)[x.toNat]? = some (decide (x ∈ f)) := by
 have h : x.toNat < n := by omega
 simp [freeL, h, Int.toNat_of_nonneg h0]
theorem freeL_set {n : Nat} {f : List Int} {x : Int} (h0 : 0 ≤ x) (h1 : x < n) : (freeL n f).set x.toNat true = freeL n (f ++ [x]) := by
 have h : x.toNat < n := by omega
 apply List.ext_getElem?
 intro i
 rw [List.getElem?_set]
 simp only [freeL, List.getElem?_map]
 by_cases hi : i < n
 ·by_cases hx : x.toNat = i
  ·subst hx; simp [h, Int.toNat_of_nonneg h0]
  ·have : (i : Int) ≠ x := by omega
   simp [hx, hi, this]
 ·have : ¬ x.toNat = i := by omega
  simp [hi, this]
@[simp] theorem freeL_nil (n : Nat) : freeL n [] = List.replicate n false := by
 apply List.ext_getElem?; intro i; simp [freeL, List.getElem?_replicate]; by_cases h : i < n <;> simp [h]
theorem freeOk_snoc {n : Nat} {f : List Int} {x : Int} : freeOk n (f ++ [x]) ↔ freeOk n f ∧ (0 ≤ x ∧ x < n) ∧ x ∉ f := by
 unfold freeOk
 simp only [List.mem_append, List.mem_singleton, List.nodup_append, List.nodup_cons]
 constructor
 ·rintro ⟨h1, h2, _, h3⟩
  exact ⟨⟨fun y hy => h1 y (.inl hy), h2⟩, h1 x (.inr rfl), fun hx => h3 x hx x (by simp) rfl⟩
 ·rintro ⟨⟨h1, h2⟩, h3, h4⟩
  refine ⟨fun y hy => ?_, h2, by simp, fun y hy z hz => ?_⟩
  ·rcases hy with hy | rfl
   ·exact h1 y hy
   ·exact h3
  ·subst hz; rintro rfl; exact h4 hy
theorem freeOk_take {n : Nat} {f : List Int} (h : freeOk n f) (j : Nat) : freeOk n (f.take j) :=
 ⟨fun x hx => h.1 x (List.mem_of_mem_take hx), h.2.sublist (List.take_sublist j f)⟩
def EntsOkP (g f : List Int) : Prop := (∀ x ∈ g, 0 ≤ x ∧ x ≤ 1000000) ∧ freeOk g.length f ∧ g.length ≤ 2000
instance (g f : List Int) : Decidable (EntsOkP g f) := by unfold EntsOkP; infer_instance
theorem len_le_of_nodup : ∀ (n : Nat) (f : List Int), (∀ x ∈ f, 0 ≤ x ∧ x < n) → f.Nodup → f.length ≤ n
 | 0, [], _, _ => by simp
 | 0, x :: f, h, _ => by have := h x (by simp); omega
 | n + 1, f, h, hn => by
  have h1 := len_le_of_nodup n (f.erase (n : Int)) (fun x hx => by
   have h2 := (hn.mem_erase_iff).1 hx
   have h3 := h x h2.2
   have : x ≠ n := h2.1
   omega) (hn.erase _)
  by_cases hm : (n : Int) ∈ f
  ·rw [List.length_erase_of_mem hm] at h1; omega
  ·rw [List.erase_of_not_mem hm] at h1; omega
theorem w234 (g f : List Int) (hg : g.length ≤ 2^40) (hf : f.length ≤ 2^40) : Contract Try.prog false 234 [.ro] [entsR g f] [.b (decide (EntsOkP g f))] [] := by
 refine mk_contract [] Try.func234 (c := Try.f234.body.get!) (by kernel_rfl) k234 r234 (of_decide_eq_true rfl) fun _ => ?_
 unfold c234 entsR; simp
 by_cases h : (2000 : Int) < g.length
 ·have hE : ¬ EntsOkP g f := fun h2 => by have := h2.2.2; omega
  simp [h, hE]
 simp [h]
 refine ⟨fun h2 => ?_, fun h2 => ?_⟩
 ·simp [EntsOkP]
  intro _ h3; have := len_le_of_nodup _ _ h3.1 h3.2; omega
 refine twp_for g.length (fun j s => s.t 1 = .pt [(3, 0)] 0 0 ∧ s.t 3 = .i .i64 g.length ∧ s.t 4 = .i .i64 j ∧ (∀ x ∈ g.take j, 0 ≤ x ∧ x ≤ 1000000) ∧
  s.H = lk [(1, []), (3, [.po true [.sl false 1 (g.map iT), .sl false 1 (f.map iT)]])]) [] (by simp) ?_ ?_
 ·simp
 ·rintro j s hj ⟨q1, q3, q4, hok, qH⟩
  rw [nf_of qH]
  simp [q1, q3, q4]
  refine ⟨fun hlt => ?_, fun hge => ?_⟩
  ·obtain ⟨x, hx⟩ := get_some hlt
   have hw : IntKind.i64.wrap (j + 1) = j + 1 := wrap_id (by omega) (by omega)
   simp [hx]
   refine callW_ms [.ro, .ro, .ro] ?_
   simp
   by_cases hr : 0 ≤ x ∧ x ≤ 1000000
   ·refine callX_of ((w87 _ _ _).t hr) (by simp) ?_
    simp [q1, q3, q4, hw, take_snoc hx]
    refine ⟨hlt, fun y hy => ?_⟩
    rcases hy with hy | rfl
    ·exact hok y hy
    ·exact hr
   ·refine callX_of ((w87 _ _ _).f hr) (by simp) ?_
    simp
    intro h; exact absurd (h.1 x (List.mem_of_getElem? hx)) hr
  ·obtain rfl : j = g.length := by omega
   simp at hok
   simp [q1, q3]
   refine ⟨by omega, ?_⟩
   refine twp_for f.length (fun j s => s.t 1 = .pt [(3, 0)] 0 0 ∧ s.t 3 = .i .i64 g.length ∧ s.t 5 = .rf [(35, 0)] 0 g.length ∧ s.t 6 = .i .i64 j ∧ freeOk g.length (f.take j) ∧
    s.H = lk [(1, []), (3, [.po true [.sl false 1 (g.map iT), .sl false 1 (f.map iT)]]), (35, [.sl true 1 ((freeL g.length (f.take j)).map bT)])]) [] (by simp) ?_ ?_
   ·simp [q1, q3, freeOk]
   ·rintro j s hj ⟨q1, q3, q5, q6, hok, qH⟩
    rw [nf_of qH]
    simp [q1, q3, q5, q6]
    refine ⟨fun hlt => ?_, fun hge => ?_⟩
    ·obtain ⟨x, hx⟩ := get_some hlt
     have hw : IntKind.i64.wrap (j + 1) = j + 1 := wrap_id (by omega) (by omega)
     have hw2 : IntKind.i64.wrap (g.length - 1) = g.length - 1 := wrap_id (by omega) (by omega)
     have hsn := take_snoc hx
     simp [hx, hw2, q3]
     refine callW_ms [.ro, .ro, .ro] ?_
     simp
     by_cases hr : 0 ≤ x ∧ x ≤ (g.length : Int) - 1
     ·refine callX_of ((w87 _ _ _).t hr) (by simp) ?_
      have hgt := freeL_get (n := g.length) (f := f.take j) (x := x) hr.1 (by omega)
      have hset : (List.map bT (freeL g.length (f.take j))).set x.toNat [.b true] = List.map bT (freeL g.length (f.take (j + 1))) := by
       rw [hsn, ← freeL_set hr.1 (by omega)]; simp
      have hno : x ∈ f.take j → ¬ freeOk g.length f := fun hx2 h => by
       have := freeOk_take h (j + 1); rw [hsn, freeOk_snoc] at this; exact this.2.2 hx2
      simp [q1, q3, q5, q6, hr.1, hgt, hw, hset]
      refine ⟨by omega, fun hx2 => by simp [hno hx2, EntsOkP], fun hx2 => ⟨by omega, hlt, ?_⟩⟩
      rw [hsn, freeOk_snoc]; exact ⟨hok, ⟨hr.1, by omega⟩, hx2⟩
     ·refine callX_of ((w87 _ _ _).f hr) (by simp) ?_
      have hno : ¬ freeOk g.length f := fun h => by
       have := freeOk_take h (j + 1); rw [hsn, freeOk_snoc] at this; omega
      simp [hno, EntsOkP]
    ·obtain rfl : j = f.length := by omega
     simp at hok
     exact ⟨by assumption, hok, by omega⟩
end Go.Proofs.YtmedelmfkciblaaT


namespace Go.Proofs.YtmedelmfkciblaaT
set_option linter.unusedVariables false
set_option linter.unusedSimpArgs false
open Go
end Go.Proofs.YtmedelmfkciblaaT


namespace Go.Proofs.YtmedelmfkciblaaT
set_option linter.unusedVariables false
set_option linter.unusedSimpArgs false
open Go
def c215 : TCode := (.seq (.ops [⟨(some 2), 4, .box 2 (.t 0), none, []⟩, ⟨(some 3), 5, .box 2 (.t 1), none, []⟩, ⟨(some 4), 6, .mv (.c (.b false)), none, []⟩])
 (.seq (.seq (.draw [⟨(some 6), 8, .faddr 0 1 (.t 3), none, []⟩, ⟨(some 7), 9, .load false 1 (.t 6), none, []⟩, ⟨(some 8), 10, .faddr 0 1 (.t 2), none, []⟩, ⟨(some 9), 11, .load false 1 (.t 8), none, []⟩, ⟨(some 10), 12, .len false (.t 9), none, []⟩, ⟨(some 11), 13, .bin .sub (.t 10) (.c (.i .i64 1)), none, []⟩, ⟨(some 12), 14, .call 87 [((.t 7), 0), ((.c (.i .i64 0)), 0), ((.t 11), 0)], none, []⟩, ⟨(some 13), 15, .un .not (.t 12), none, []⟩, ⟨(some 14), 16, .mv (.t 13), none, []⟩, ⟨(some 15), 17, .faddr 0 1 (.t 2), (some (14, false)), []⟩, ⟨(some 16), 18, .load false 1 (.t 15), (some (14, false)), []⟩, ⟨(some 17), 19, .faddr 0 1 (.t 3), (some (14, false)), []⟩, ⟨(some 18), 20, .load false 1 (.t 17), (some (14, false)), []⟩, ⟨(some 19), 21, .iaddr 1 (.t 16) (.t 18), (some (14, false)), []⟩, ⟨(some 20), 22, .load false 1 (.t 19), (some (14, false)), []⟩, ⟨(some 21), 23, .faddr 1 1 (.t 3), (some (14, false)), []⟩, ⟨(some 22), 24, .load false 1 (.t 21), (some (14, false)), []⟩, ⟨(some 23), 25, .bin .neq (.t 20) (.t 22), (some (14, false)), []⟩, ⟨(some 24), 26, .pick (.t 14) (.c (.b true)) (.t 23), none, []⟩])
 (.cond (.t 24)
 (.seq (.ops [⟨(some 4), 6, .mv (.c (.b false)), none, []⟩])
 .ret)
 .skip))
 (.seq (.seq (.ops [⟨(some 5), 7, .mv (.c (.i .i64 0)), none, []⟩])
 (.block 0 (.loop (.seq (.seq (.ops [⟨(some 25), 27, .mv (.t 5), none, []⟩, ⟨(some 26), 28, .faddr 1 1 (.t 2), none, []⟩, ⟨(some 27), 29, .load false 1 (.t 26), none, []⟩, ⟨(some 28), 30, .len false (.t 27), none, []⟩, ⟨(some 29), 31, .bin .lss (.t 25) (.t 28), none, []⟩])
 (.cond (.t 29)
 .skip
 (.exit 0)))
 (.seq (.block 1 (.seq (.draw [⟨(some 32), 34, .faddr 1 1 (.t 2), none, []⟩, ⟨(some 33), 35, .load false 1 (.t 32), none, []⟩, ⟨(some 34), 36, .mv (.t 5), none, []⟩, ⟨(some 35), 37, .iaddr 1 (.t 33) (.t 34), none, []⟩, ⟨(some 36), 38, .load false 1 (.t 35), none, []⟩, ⟨(some 37), 39, .faddr 0 1 (.t 3), none, []⟩, ⟨(some 38), 40, .load false 1 (.t 37), none, []⟩, ⟨(some 39), 41, .bin .eql (.t 36) (.t 38), none, []⟩])
 (.cond (.t 39)
 (.seq (.ops [⟨(some 4), 6, .mv (.c (.b false)), none, []⟩])
 .ret)
 .skip)))
 (.ops [⟨(some 30), 32, .mv (.t 5), none, []⟩, ⟨(some 31), 33, .bin .add (.t 30) (.c (.i .i64 1)), none, []⟩, ⟨(some 5), 7, .mv (.t 31), none, []⟩]))))))
 (.seq (.ops [⟨(some 4), 6, .mv (.c (.b true)), none, []⟩])
 .ret))))
theorem k215 : compCode Try.prog Try.f215.ntmps Try.f215.body.get! = some c215 := by kernel_rfl
theorem r215 : resTmps Try.prog Try.f215.results.toList = some [.tmp 4] := by kernel_rfl
def entT (x y : Int) : TV := .ag [.i .i64 x, .i .i64 y]
def idxF (l : List Int) (x : Int) : Int := if x ∈ l then (l.idxOf x : Int) else -1
theorem idxF_at {l : List Int} {x : Int} {j : Nat} (h : l[j]? = some x) (hn : x ∉ l.take j) : idxF l x = j := by
 have hm := List.mem_of_getElem? h
 have hj := (List.getElem?_eq_some_iff.1 h).1
 have hl : l = l.take j ++ x :: l.drop (j + 1) := by
  have := (List.getElem?_eq_some_iff.1 h).2
  rw [← this, ← List.drop_eq_getElem_cons hj, List.take_append_drop]
 unfold idxF
 rw [if_pos hm]
 have : l.idxOf x = j := by
  rw [hl, List.idxOf_append, if_neg hn]
  simp [Nat.min_eq_left (Nat.le_of_lt hj)]
 rw [this]
theorem idxF_ge (l : List Int) (x : Int) : 0 ≤ idxF l x ↔ x ∈ l := by
 unfold idxF; split
 ·rename_i h; exact ⟨fun _ => h, fun _ => by omega⟩
 ·rename_i h; exact ⟨fun h2 => by omega, fun h2 => absurd h2 h⟩
def liveP (g f : List Int) (x y : Int) : Prop := (0 ≤ x ∧ x ≤ (g.length : Int) - 1) ∧ g[x.toNat]? = some y ∧ x ∉ f
instance (g f : List Int) (x y : Int) : Decidable (liveP g f x y) := by unfold liveP; infer_instance
theorem w215 (g f : List Int) (x y : Int) (hg : g.length ≤ 2^40) (hf : f.length ≤ 2^40) : Contract Try.prog false 215 [.ro, .ro] [entsR g f, entT x y] [.b (decide (liveP g f x y))] [] := by
 refine mk_contract [] Try.func215 (c := Try.f215.body.get!) (by kernel_rfl) k215 r215 (of_decide_eq_true rfl) fun _ => ?_
 have hw2 : IntKind.i64.wrap (g.length - 1) = g.length - 1 := wrap_id (by omega) (by omega)
 unfold c215 entT entsR; simp [hw2]
 refine callW_ms [.ro, .ro, .ro] ?_
 simp
 by_cases hr : 0 ≤ x ∧ x ≤ (g.length : Int) - 1
 ·refine callX_of ((w87 _ _ _).t hr) (by simp) ?_
  obtain ⟨z, hz⟩ := get_some (l := g) (j := x.toNat) (by omega)
  by_cases hzy : z = y
  ·subst hzy
   simp [hr.1, hz]
   refine twp_for f.length (fun j s => s.t 2 = .pt [(4, 0)] 0 0 ∧ s.t 3 = .pt [(5, 0)] 0 0 ∧ s.t 5 = .i .i64 j ∧ x ∉ f.take j ∧
    s.H = lk [(1, []), (4, [.po true [.sl false 1 (g.map iT), .sl false 1 (f.map iT)]]), (5, [.po true [.i .i64 x, .i .i64 z]])]) [] (by simp) ?_ ?_
   ·simp
   ·rintro j s hj ⟨q2, q3, q5, hn, qH⟩
    rw [nf_of qH]
    simp [q2, q3, q5]
    refine ⟨fun hlt => ?_, fun hge => ?_⟩
    ·have hw : IntKind.i64.wrap (j + 1) = j + 1 := wrap_id (by omega) (by omega)
     obtain ⟨u, hu⟩ := get_some hlt
     simp [hu, hw, q2, q3, q5]
     refine ⟨fun hux => ?_, fun hux => ⟨hlt, ?_⟩⟩
     ·subst hux
      intro h; exact h.2.2 (List.mem_of_getElem? hu)
     ·rw [take_snoc hu]; simp; exact ⟨hn, fun h => hux h.symm⟩
    ·obtain rfl : j = f.length := by omega
     rw [List.take_of_length_le (Nat.le_refl _)] at hn
     exact ⟨hr, hz, hn⟩
  ·have : ¬ liveP g f x y := fun h => by have := h.2.1; rw [hz] at this; cases this; exact hzy rfl
   simp [hr.1, hz, hzy, this]
 ·refine callX_of ((w87 _ _ _).f hr) (by simp) ?_
  have : ¬ liveP g f x y := fun h => hr h.1
  simp [this]
end Go.Proofs.YtmedelmfkciblaaT


namespace Go.Proofs.YtmedelmfkciblaaT
set_option linter.unusedVariables false
set_option linter.unusedSimpArgs false
open Go
def c214 : TCode := (.seq (.ops [⟨(some 1), 3, .box 2 (.t 0), none, []⟩, ⟨(some 2), 4, .box 2 (.c (.ag [(.sl true 1 []), (.sl true 1 [])])), none, []⟩])
 (.seq (.draw [⟨(some 3), 5, .bslice 1 0 [(.i .i64 0)] [], none, []⟩, ⟨(some 4), 6, .faddr 0 1 (.t 1), none, [0]⟩, ⟨(some 5), 7, .load false 1 (.t 4), none, [0]⟩, ⟨(some 6), 8, .app 1 8 (.t 3) (.t 5), none, []⟩, ⟨(some 7), 9, .bslice 1 0 [(.i .i64 0)] [], none, [0, 1, 2, 3]⟩, ⟨(some 8), 10, .faddr 1 1 (.t 1), none, [0, 3, 4]⟩, ⟨(some 9), 11, .load false 1 (.t 8), none, [0, 3, 4]⟩, ⟨(some 10), 12, .app 1 8 (.t 7) (.t 9), none, []⟩, ⟨(some 11), 13, .build [(.sl true 1 []), (.sl true 1 [])] [(0, 1, (.t 6)), (1, 1, (.t 10))], none, []⟩, ⟨none, 1001009, .store 2 (.t 2) (.t 11), none, []⟩])
 .ret))
theorem k214 : compCode Try.prog Try.f214.ntmps Try.f214.body.get! = some c214 := by kernel_rfl
theorem r214 : resTmps Try.prog Try.f214.results.toList = some [.cell 2 true 2] := by kernel_rfl
def c221 : TCode := (.seq (.ops [⟨(some 2), 4, .box 2 (.t 0), none, []⟩, ⟨(some 3), 5, .box 2 (.t 1), none, []⟩, ⟨(some 4), 6, .box 2 (.c (.ag [(.sl true 1 []), (.sl true 1 [])])), none, []⟩])
 (.seq (.ops [⟨(some 5), 7, .faddr 0 1 (.t 2), none, []⟩, ⟨(some 6), 8, .load false 1 (.t 5), none, []⟩, ⟨(some 7), 9, .faddr 0 1 (.t 3), none, []⟩, ⟨(some 8), 10, .load false 1 (.t 7), none, []⟩, ⟨(some 9), 11, .faddr 1 1 (.t 3), none, []⟩, ⟨(some 10), 12, .load false 1 (.t 9), none, []⟩, ⟨(some 11), 13, .bin .add (.t 10) (.c (.i .i64 1)), none, []⟩, ⟨(some 12), 14, .iaddr 1 (.t 6) (.t 8), none, []⟩, ⟨none, 1001008, .store 1 (.t 12) (.t 11), none, []⟩])
 (.seq (.seq (.ops [⟨(some 13), 15, .faddr 1 1 (.t 3), none, []⟩, ⟨(some 14), 16, .load false 1 (.t 13), none, []⟩, ⟨(some 15), 17, .bin .geq (.t 14) (.c (.i .i64 1000000)), none, []⟩])
 (.cond (.t 15)
 (.ops [⟨(some 16), 18, .faddr 0 1 (.t 2), none, []⟩, ⟨(some 17), 19, .load false 1 (.t 16), none, []⟩, ⟨(some 18), 20, .faddr 0 1 (.t 3), none, []⟩, ⟨(some 19), 21, .load false 1 (.t 18), none, []⟩, ⟨(some 20), 22, .iaddr 1 (.t 17) (.t 19), none, []⟩, ⟨none, 1003005, .store 1 (.t 20) (.c (.i .i64 0)), none, []⟩])
 .skip))
 (.seq (.ops [⟨(some 21), 23, .faddr 1 1 (.t 2), none, []⟩, ⟨(some 22), 24, .load false 1 (.t 21), none, []⟩, ⟨(some 23), 25, .faddr 0 1 (.t 3), none, []⟩, ⟨(some 24), 26, .load false 1 (.t 23), none, []⟩, ⟨(some 25), 27, .bslice 1 1 [(.i .i64 0)] [(0, (.t 24))], none, []⟩, ⟨(some 26), 28, .app 1 8 (.t 22) (.t 25), none, []⟩, ⟨(some 27), 29, .faddr 1 1 (.t 2), none, []⟩, ⟨none, 1004007, .store 1 (.t 27) (.t 26), none, []⟩])
 (.seq (.ops [⟨(some 28), 30, .load true 2 (.t 2), none, []⟩, ⟨none, 1005001, .store 2 (.t 4) (.t 28), none, []⟩])
 .ret)))))
theorem k221 : compCode Try.prog Try.f221.ntmps Try.f221.body.get! = some c221 := by kernel_rfl
theorem r221 : resTmps Try.prog Try.f221.results.toList = some [.cell 4 true 2] := by kernel_rfl
theorem w214 (g f : List Int) (hg : g.length ≤ 2^40) (hf : f.length ≤ 2^40) : Contract Try.prog false 214 [.ro] [entsR g f] [entsO g f] [] := by
 refine mk_contract [] Try.func214 (c := Try.f214.body.get!) (by kernel_rfl) k214 r214 (of_decide_eq_true rfl) fun _ => ?_
 unfold c214 entsR entsO; simp
 omega
def giveG (g : List Int) (x y : Int) : List Int := g.set x.toNat (if 1000000 ≤ y then 0 else y + 1)
@[simp] theorem giveG_len (g : List Int) (x y : Int) : (giveG g x y).length = g.length := by simp [giveG]
theorem w221 (g f : List Int) (x y : Int) (hf : f.length ≤ 2^40) (hx0 : 0 ≤ x) (hxg : g[x.toNat]? = some y) (hy : 0 ≤ y ∧ y ≤ 1000000) : Contract Try.prog false 221 [.own, .ro] [entsO g f, entT x y] [entsO (giveG g x y) (f ++ [x])] [none, none] := by
 refine mk_contract [none, none] Try.func221 (c := Try.f221.body.get!) (by kernel_rfl) k221 r221 (of_decide_eq_true rfl) fun _ => ?_
 have hlt := (List.getElem?_eq_some_iff.1 hxg).1
 have hw : IntKind.i64.wrap (y + 1) = y + 1 := wrap_id (by omega) (by omega)
 have hs : ∀ e, ((g.map iT).set x.toNat e)[x.toNat]? = some e := fun e => by simp [hlt]
 unfold c221; unfold entsO entT; simp [hw, hx0, hxg, hs]
 refine ⟨by omega, fun hge => ?_, fun hlt2 => ?_⟩
 ·simp [giveG, hge]; omega
 ·simp [giveG, show ¬ 1000000 ≤ y by omega]; omega
end Go.Proofs.YtmedelmfkciblaaT


namespace Go.Proofs.YtmedelmfkciblaaT
set_option linter.unusedVariables false
set_option linter.unusedSimpArgs false
open Go
def c218 : TCode := (.seq (.ops [⟨(some 1), 3, .box 2 (.t 0), none, []⟩, ⟨(some 2), 4, .mv (.c (.sl true 2 [])), none, []⟩])
 (.seq (.ops [⟨(some 7), 9, .bslice 2 0 [(.i .i64 0), (.i .i64 0)] [], none, []⟩, ⟨(some 3), 5, .mv (.t 7), none, []⟩])
 (.seq (.seq (.ops [⟨(some 8), 10, .load true 2 (.t 1), none, []⟩, ⟨(some 9), 11, .call 234 [((.t 8), 0)], none, []⟩, ⟨(some 10), 12, .un .not (.t 9), none, []⟩])
 (.cond (.t 10)
 (.seq (.ops [⟨(some 11), 13, .mv (.t 3), none, []⟩, ⟨(some 2), 4, .mv (.t 11), none, []⟩])
 .ret)
 .skip))
 (.seq (.ops [⟨(some 12), 14, .faddr 0 1 (.t 1), none, []⟩, ⟨(some 13), 15, .load false 1 (.t 12), none, []⟩, ⟨(some 14), 16, .len false (.t 13), none, []⟩, ⟨(some 15), 17, .mkslice 1 1 [(.b false)] (.t 14) (.t 14), none, []⟩, ⟨(some 4), 6, .mv (.t 15), none, []⟩])
 (.seq (.seq (.ops [⟨(some 5), 7, .mv (.c (.i .i64 0)), none, []⟩])
 (.block 0 (.loop (.seq (.seq (.ops [⟨(some 16), 18, .mv (.t 5), none, []⟩, ⟨(some 17), 19, .faddr 1 1 (.t 1), none, []⟩, ⟨(some 18), 20, .load false 1 (.t 17), none, []⟩, ⟨(some 19), 21, .len false (.t 18), none, []⟩, ⟨(some 20), 22, .bin .lss (.t 16) (.t 19), none, []⟩])
 (.cond (.t 20)
 .skip
 (.exit 0)))
 (.seq (.block 1 (.ops [⟨(some 23), 25, .mv (.t 4), none, []⟩, ⟨(some 24), 26, .faddr 1 1 (.t 1), none, []⟩, ⟨(some 25), 27, .load false 1 (.t 24), none, []⟩, ⟨(some 26), 28, .mv (.t 5), none, []⟩, ⟨(some 27), 29, .iaddr 1 (.t 25) (.t 26), none, []⟩, ⟨(some 28), 30, .load false 1 (.t 27), none, []⟩, ⟨(some 29), 31, .iaddr 1 (.t 23) (.t 28), none, []⟩, ⟨none, 1008007, .store 1 (.t 29) (.c (.b true)), none, []⟩]))
 (.ops [⟨(some 21), 23, .mv (.t 5), none, []⟩, ⟨(some 22), 24, .bin .add (.t 21) (.c (.i .i64 1)), none, []⟩, ⟨(some 5), 7, .mv (.t 22), none, []⟩]))))))
 (.seq (.seq (.ops [⟨(some 6), 8, .mv (.c (.i .i64 0)), none, []⟩])
 (.block 2 (.loop (.seq (.seq (.ops [⟨(some 30), 32, .mv (.t 6), none, []⟩, ⟨(some 31), 33, .faddr 0 1 (.t 1), none, []⟩, ⟨(some 32), 34, .load false 1 (.t 31), none, []⟩, ⟨(some 33), 35, .len false (.t 32), none, []⟩, ⟨(some 34), 36, .bin .lss (.t 30) (.t 33), none, []⟩])
 (.cond (.t 34)
 .skip
 (.exit 2)))
 (.seq (.block 3 (.seq (.ops [⟨(some 37), 39, .mv (.t 4), none, []⟩, ⟨(some 38), 40, .mv (.t 6), none, []⟩, ⟨(some 39), 41, .iaddr 1 (.t 37) (.t 38), none, []⟩, ⟨(some 40), 42, .load false 1 (.t 39), none, []⟩, ⟨(some 41), 43, .un .not (.t 40), none, []⟩])
 (.cond (.t 41)
 (.ops [⟨(some 42), 44, .mv (.t 3), none, []⟩, ⟨(some 43), 45, .mv (.t 6), none, []⟩, ⟨(some 44), 46, .faddr 0 1 (.t 1), none, []⟩, ⟨(some 45), 47, .load false 1 (.t 44), none, []⟩, ⟨(some 46), 48, .mv (.t 6), none, []⟩, ⟨(some 47), 49, .iaddr 1 (.t 45) (.t 46), none, []⟩, ⟨(some 48), 50, .load false 1 (.t 47), none, []⟩, ⟨(some 49), 51, .build [(.i .i64 0), (.i .i64 0)] [(0, 1, (.t 43)), (1, 1, (.t 48))], none, []⟩, ⟨(some 50), 52, .bslice 2 1 [(.i .i64 0), (.i .i64 0)] [(0, (.t 49))], none, []⟩, ⟨(some 51), 53, .app 2 16 (.t 42) (.t 50), none, []⟩, ⟨(some 3), 5, .mv (.t 51), none, []⟩])
 .skip)))
 (.ops [⟨(some 35), 37, .mv (.t 6), none, []⟩, ⟨(some 36), 38, .bin .add (.t 35) (.c (.i .i64 1)), none, []⟩, ⟨(some 6), 8, .mv (.t 36), none, []⟩]))))))
 (.seq (.ops [⟨(some 52), 54, .mv (.t 3), none, []⟩, ⟨(some 2), 4, .mv (.t 52), none, []⟩])
 .ret)))))))
theorem k218 : compCode Try.prog Try.f218.ntmps Try.f218.body.get! = some c218 := by kernel_rfl
theorem r218 : resTmps Try.prog Try.f218.results.toList = some [.tmp 2] := by kernel_rfl
@[simp] def eT (p : Int × Int) : List TV := [.i .i64 p.1, .i .i64 p.2]
@[simp] theorem fzL_eT (p : Int × Int) : fzL (eT p) = eT p := rfl
@[simp] theorem fzLL_eT (l : List (Int × Int)) : fzLL (l.map eT) = l.map eT := fzLL_map fzL_eT l
@[simp] theorem noROLL_eT (l : List (Int × Int)) : noROLL (l.map eT) = true := noROLL_map (fun _ => rfl) l
def liveG (g f : List Int) : Nat → List (Int × Int)
 | 0 => []
 | n + 1 => liveG g f n ++ (if (n : Int) ∈ f then [] else [((n : Int), (g[n]?).getD 0)])
theorem liveG_len (g f : List Int) (n : Nat) : (liveG g f n).length ≤ n := by
 induction n with
 | zero => simp [liveG]
 | succ n ih => simp only [liveG, List.length_append]; split <;> simp <;> omega
def entListF (g f : List Int) : List (Int × Int) := if EntsOkP g f then liveG g f g.length else []
theorem entListF_len (g f : List Int) : (entListF g f).length ≤ g.length := by
 unfold entListF; split
 ·exact liveG_len ..
 ·simp
theorem w218 (g f : List Int) (hg : g.length ≤ 2^40) (hf : f.length ≤ 2^40) : Contract Try.prog false 218 [.ro] [entsR g f] [.sl true 2 ((entListF g f).map eT)] [] := by
 refine mk_contract [] Try.func218 (c := Try.f218.body.get!) (by kernel_rfl) k218 r218 (of_decide_eq_true rfl) fun _ => ?_
 unfold c218; unfold entsR; simp
 refine callW_ms [.ro] ?_
 simp
 refine callX_of (w234 g f hg hf) (by simp) ?_
 simp
 refine ⟨fun hE => ?_, fun hE => ?_⟩
 ·refine ⟨by omega, ?_⟩
  refine twp_for f.length (fun j s => s.t 1 = .pt [(3, 0)] 0 0 ∧ s.t 3 = .rf [(9, 0)] 0 0 ∧ s.t 4 = .rf [(17, 0)] 0 g.length ∧ s.t 5 = .i .i64 j ∧ s.H = lk [(1, []), (3, [.po true [.sl false 1 (g.map iT), .sl false 1 (f.map iT)]]), (9, [.sl true 2 []]), (17, [.sl true 1 ((freeL g.length (f.take j)).map bT)])]) [] (by simp) ?_ ?_
  ·simp
  ·rintro j s hj ⟨q1, q3, q4, q5, qH⟩
   rw [nf_of qH]
   simp [q1, q3, q4, q5]
   refine ⟨fun hlt => ?_, fun hge => ?_⟩
   ·have hw : IntKind.i64.wrap (j + 1) = j + 1 := wrap_id (by omega) (by omega)
    obtain ⟨x, hx⟩ := get_some hlt
    have hb := hE.2.1.1 x (List.mem_of_getElem? hx)
    have hgt := freeL_get (n := g.length) (f := f.take j) (x := x) hb.1 hb.2
    have hset : (List.map bT (freeL g.length (f.take j))).set x.toNat [.b true] = List.map bT (freeL g.length (f.take (j + 1))) := by
     rw [take_snoc hx, ← freeL_set hb.1 hb.2]; simp
    simp [hx, hw, q1, q3, q4, q5, hb.1, hb.2, hgt, hset]
    omega
   ·obtain rfl : j = f.length := by omega
    simp [q1, q3, q4, q5]
    refine twp_forR g.length (fun j s => s.t 1 = .pt [(3, 0)] 0 0 ∧ s.t 3 = .rf [(53, 0)] 0 (liveG g f j).length ∧ s.t 4 = .rf [(17, 0)] 0 g.length ∧ s.t 6 = .i .i64 j ∧ s.H = lk [(1, []), (3, [.po true [.sl false 1 (g.map iT), .sl false 1 (f.map iT)]]), (53, [.sl true 2 ((liveG g f j).map eT)]), (17, [.sl true 1 ((freeL g.length f).map bT)])]) [52] [(9, 53)] (by simp) (by simp) ?_ ?_
    ·simp [q1, q3, q4, liveG]
    ·rintro j s hj ⟨q1, q3, q4, q6, qH⟩
     rw [nf_of qH]
     simp [q1, q3, q4, q6]
     refine ⟨fun hlt => ?_, fun hge => ?_⟩
     ·have hw : IntKind.i64.wrap (j + 1) = j + 1 := wrap_id (by omega) (by omega)
      obtain ⟨x, hx⟩ := get_some hlt
      have hgt := freeL_get (n := g.length) (f := f) (x := j) (by omega) (by omega)
      simp at hgt
      have hll := liveG_len g f j
      simp [hx, hw, q1, q3, q4, q6, hgt]
      refine ⟨hlt, fun h => ?_, fun h => ?_⟩
      ·simp [liveG, h, hlt]
      ·refine ⟨by omega, hlt, ?_⟩; simp [liveG, h, hx]
     ·obtain rfl : j = g.length := by omega
      simp [q1, q3, q4, q6, entListF, hE]
 ·simp [entListF, hE]
end Go.Proofs.YtmedelmfkciblaaT


namespace Go.Proofs.YtmedelmfkciblaaT
set_option linter.unusedVariables false
set_option linter.unusedSimpArgs false
open Go
def c185 : TCode := (.seq (.ops [⟨(some 2), 4, .mv (.c (.b false)), none, []⟩])
 (.seq (.ops [⟨(some 3), 5, .mv (.t 0), none, []⟩, ⟨(some 4), 6, .bin .geq (.t 3) (.c (.i .u8 97)), none, []⟩, ⟨(some 5), 7, .mv (.t 4), none, []⟩, ⟨(some 6), 8, .mv (.t 0), (some (5, true)), []⟩, ⟨(some 7), 9, .bin .leq (.t 6) (.c (.i .u8 122)), (some (5, true)), []⟩, ⟨(some 8), 10, .pick (.t 5) (.t 7) (.c (.b false)), none, []⟩, ⟨(some 9), 11, .mv (.t 8), none, []⟩, ⟨(some 10), 12, .mv (.t 0), (some (9, false)), []⟩, ⟨(some 11), 13, .bin .geq (.t 10) (.c (.i .u8 65)), (some (9, false)), []⟩, ⟨(some 12), 14, .mv (.t 11), (some (9, false)), []⟩, ⟨(some 13), 15, .mv (.t 0), (some (12, true)), []⟩, ⟨(some 14), 16, .bin .leq (.t 13) (.c (.i .u8 90)), (some (12, true)), []⟩, ⟨(some 15), 17, .pick (.t 12) (.t 14) (.c (.b false)), (some (9, false)), []⟩, ⟨(some 16), 18, .pick (.t 9) (.c (.b true)) (.t 15), none, []⟩, ⟨(some 2), 4, .mv (.t 16), none, []⟩])
 .ret))
theorem k185 : compCode Try.prog Try.f185.ntmps Try.f185.body.get! = some c185 := by kernel_rfl
theorem r185 : resTmps Try.prog Try.f185.results.toList = some [.tmp 2] := by kernel_rfl
def c222 : TCode := (.seq (.ops [⟨(some 0), 2, .mv (.c (.sl true 1 [])), none, []⟩])
 (.seq (.ops [⟨(some 1), 3, .bslice 1 32 [(.s ⟨#[]⟩)] [(0, (.c (.s ⟨#[115, 121, 115, 116, 101, 109]⟩))), (1, (.c (.s ⟨#[102, 110]⟩))), (2, (.c (.s ⟨#[108, 101, 116]⟩))), (3, (.c (.s ⟨#[105, 102]⟩))), (4, (.c (.s ⟨#[101, 108, 115, 101]⟩))), (5, (.c (.s ⟨#[108, 111, 111, 112]⟩))), (6, (.c (.s ⟨#[101, 97, 99, 104]⟩))), (7, (.c (.s ⟨#[119, 105, 116, 104]⟩))), (8, (.c (.s ⟨#[119, 105, 116, 104, 111, 117, 116]⟩))), (9, (.c (.s ⟨#[101, 109, 105, 116]⟩))), (10, (.c (.s ⟨#[104, 101, 97, 114]⟩))), (11, (.c (.s ⟨#[97, 115]⟩))), (12, (.c (.s ⟨#[115, 112, 97, 119, 110]⟩))), (13, (.c (.s ⟨#[107, 105, 108, 108]⟩))), (14, (.c (.s ⟨#[112, 117, 116]⟩))), (15, (.c (.s ⟨#[100, 114, 111, 112]⟩))), (16, (.c (.s ⟨#[100, 111]⟩))), (17, (.c (.s ⟨#[114, 101, 116, 117, 114, 110]⟩))), (18, (.c (.s ⟨#[112, 105, 99, 107]⟩))), (19, (.c (.s ⟨#[111, 102]⟩))), (20, (.c (.s ⟨#[121, 101, 115]⟩))), (21, (.c (.s ⟨#[110, 111]⟩))), (22, (.c (.s ⟨#[97, 110, 100]⟩))), (23, (.c (.s ⟨#[111, 114]⟩))), (24, (.c (.s ⟨#[110, 111, 116]⟩))), (25, (.c (.s ⟨#[105, 110, 116]⟩))), (26, (.c (.s ⟨#[114, 101, 97, 108]⟩))), (27, (.c (.s ⟨#[112, 97, 105, 114]⟩))), (28, (.c (.s ⟨#[98, 111, 111, 108]⟩))), (29, (.c (.s ⟨#[114, 101]⟩))), (30, (.c (.s ⟨#[105, 109]⟩))), (31, (.c (.s ⟨#[115, 105, 122, 101]⟩)))], none, []⟩, ⟨(some 0), 2, .mv (.t 1), none, []⟩])
 .ret))
theorem k222 : compCode Try.prog Try.f222.ntmps Try.f222.body.get! = some c222 := by kernel_rfl
theorem r222 : resTmps Try.prog Try.f222.results.toList = some [.tmp 0] := by kernel_rfl
def c186 : TCode := (.seq (.ops [⟨(some 2), 4, .mv (.c (.b false)), none, []⟩])
 (.seq (.ops [⟨(some 5), 7, .call 222 [], none, []⟩, ⟨(some 3), 5, .mv (.t 5), none, []⟩])
 (.seq (.seq (.ops [⟨(some 4), 6, .mv (.c (.i .i64 0)), none, []⟩])
 (.block 0 (.loop (.seq (.seq (.ops [⟨(some 6), 8, .mv (.t 4), none, []⟩, ⟨(some 7), 9, .mv (.t 3), none, []⟩, ⟨(some 8), 10, .len false (.t 7), none, []⟩, ⟨(some 9), 11, .bin .lss (.t 6) (.t 8), none, []⟩])
 (.cond (.t 9)
 .skip
 (.exit 0)))
 (.seq (.block 1 (.seq (.ops [⟨(some 12), 14, .mv (.t 3), none, []⟩, ⟨(some 13), 15, .mv (.t 4), none, []⟩, ⟨(some 14), 16, .iaddr 1 (.t 12) (.t 13), none, []⟩, ⟨(some 15), 17, .load false 1 (.t 14), none, []⟩, ⟨(some 16), 18, .mv (.t 0), none, []⟩, ⟨(some 17), 19, .bin .eql (.t 15) (.t 16), none, []⟩])
 (.cond (.t 17)
 (.seq (.ops [⟨(some 2), 4, .mv (.c (.b true)), none, []⟩])
 .ret)
 .skip)))
 (.ops [⟨(some 10), 12, .mv (.t 4), none, []⟩, ⟨(some 11), 13, .bin .add (.t 10) (.c (.i .i64 1)), none, []⟩, ⟨(some 4), 6, .mv (.t 11), none, []⟩]))))))
 (.seq (.ops [⟨(some 2), 4, .mv (.c (.b false)), none, []⟩])
 .ret))))
theorem k186 : compCode Try.prog Try.f186.ntmps Try.f186.body.get! = some c186 := by kernel_rfl
theorem r186 : resTmps Try.prog Try.f186.results.toList = some [.tmp 2] := by kernel_rfl
def c145 : TCode := (.seq (.ops [⟨(some 2), 4, .mv (.c (.b false)), none, []⟩])
 (.seq (.seq (.ops [⟨(some 4), 6, .mv (.t 0), none, []⟩, ⟨(some 5), 7, .len true (.t 4), none, []⟩, ⟨(some 6), 8, .call 87 [((.t 5), 0), ((.c (.i .i64 1)), 0), ((.c (.i .i64 12)), 0)], none, []⟩, ⟨(some 7), 9, .un .not (.t 6), none, []⟩])
 (.cond (.t 7)
 (.seq (.ops [⟨(some 2), 4, .mv (.c (.b false)), none, []⟩])
 .ret)
 .skip))
 (.seq (.seq (.ops [⟨(some 3), 5, .mv (.c (.i .i64 0)), none, []⟩])
 (.block 0 (.loop (.seq (.seq (.ops [⟨(some 8), 10, .mv (.t 3), none, []⟩, ⟨(some 9), 11, .mv (.t 0), none, []⟩, ⟨(some 10), 12, .len true (.t 9), none, []⟩, ⟨(some 11), 13, .bin .lss (.t 8) (.t 10), none, []⟩])
 (.cond (.t 11)
 .skip
 (.exit 0)))
 (.seq (.block 1 (.seq (.ops [⟨(some 14), 16, .mv (.t 0), none, []⟩, ⟨(some 15), 17, .mv (.t 3), none, []⟩, ⟨(some 16), 18, .ix (.t 14) (.t 15), none, []⟩, ⟨(some 17), 19, .call 185 [((.t 16), 0)], none, []⟩, ⟨(some 18), 20, .un .not (.t 17), none, []⟩])
 (.cond (.t 18)
 (.seq (.ops [⟨(some 2), 4, .mv (.c (.b false)), none, []⟩])
 .ret)
 .skip)))
 (.ops [⟨(some 12), 14, .mv (.t 3), none, []⟩, ⟨(some 13), 15, .bin .add (.t 12) (.c (.i .i64 1)), none, []⟩, ⟨(some 3), 5, .mv (.t 13), none, []⟩]))))))
 (.seq (.ops [⟨(some 19), 21, .mv (.t 0), none, []⟩, ⟨(some 20), 22, .call 186 [((.t 19), 0)], none, []⟩, ⟨(some 21), 23, .un .not (.t 20), none, []⟩, ⟨(some 2), 4, .mv (.t 21), none, []⟩])
 .ret))))
theorem k145 : compCode Try.prog Try.f145.ntmps Try.f145.body.get! = some c145 := by kernel_rfl
theorem r145 : resTmps Try.prog Try.f145.results.toList = some [.tmp 2] := by kernel_rfl
@[simp] def sT (s : ByteArray) : List TV := [.s s]
@[simp] theorem fzL_sT (s : ByteArray) : fzL (sT s) = sT s := rfl
@[simp] def dT (d : ByteArray × Int) : List TV := [.s d.1, .i .i64 d.2]
@[simp] theorem fzL_dT (d : ByteArray × Int) : fzL (dT d) = dT d := rfl
@[simp] theorem fzLL_dT (l : List (ByteArray × Int)) : fzLL (l.map dT) = l.map dT := fzLL_map fzL_dT l
@[simp] theorem noROLL_dT (l : List (ByteArray × Int)) : noROLL (l.map dT) = true := noROLL_map (fun _ => rfl) l
@[simp] theorem noref_dT (l : List (ByteArray × Int)) : (l.map dT).all (·.all noref) = true := noref_map (fun _ => rfl) l
@[simp] theorem srcT_dT (H : Hp) (z : Nat) (l : List (ByteArray × Int)) : srcT H (.sl false z (l.map dT)) = some (z, l.map dT, H, []) := by simp only [srcT, noref_dT, if_true]
instance memS (a : ByteArray) (l : List ByteArray) : Decidable (a ∈ l) := decidable_of_iff (l.any (fun x => decide (x = a)) = true) (by simp)
def lettP (n : Int) : Prop := (97 ≤ n ∧ n ≤ 122) ∨ (65 ≤ n ∧ n ≤ 90)
instance (n : Int) : Decidable (lettP n) := by unfold lettP; infer_instance
theorem w185 (n : Int) : Contract Try.prog false 185 [.ro] [.i .u8 n] [.b (decide (lettP n))] [] := by
 refine mk_contract [] Try.func185 (c := Try.f185.body.get!) (by kernel_rfl) k185 r185 (of_decide_eq_true rfl) fun _ => ?_
 unfold c185; simp
 by_cases h1 : 97 ≤ n <;> by_cases h2 : n ≤ 122 <;> by_cases h3 : 65 ≤ n <;> by_cases h4 : n ≤ 90 <;> simp [lettP, h1, h2, h3, h4]
def words : List ByteArray := [⟨#[115, 121, 115, 116, 101, 109]⟩, ⟨#[102, 110]⟩, ⟨#[108, 101, 116]⟩, ⟨#[105, 102]⟩, ⟨#[101, 108, 115, 101]⟩, ⟨#[108, 111, 111, 112]⟩, ⟨#[101, 97, 99, 104]⟩, ⟨#[119, 105, 116, 104]⟩, ⟨#[119, 105, 116, 104, 111, 117, 116]⟩, ⟨#[101, 109, 105, 116]⟩, ⟨#[104, 101, 97, 114]⟩, ⟨#[97, 115]⟩, ⟨#[115, 112, 97, 119, 110]⟩, ⟨#[107, 105, 108, 108]⟩, ⟨#[112, 117, 116]⟩, ⟨#[100, 114, 111, 112]⟩, ⟨#[100, 111]⟩, ⟨#[114, 101, 116, 117, 114, 110]⟩, ⟨#[112, 105, 99, 107]⟩, ⟨#[111, 102]⟩, ⟨#[121, 101, 115]⟩, ⟨#[110, 111]⟩, ⟨#[97, 110, 100]⟩, ⟨#[111, 114]⟩, ⟨#[110, 111, 116]⟩, ⟨#[105, 110, 116]⟩, ⟨#[114, 101, 97, 108]⟩, ⟨#[112, 97, 105, 114]⟩, ⟨#[98, 111, 111, 108]⟩, ⟨#[114, 101]⟩, ⟨#[105, 109]⟩, ⟨#[115, 105, 122, 101]⟩]
theorem words_len : words.length = 32 := rfl
theorem w222  : Contract Try.prog false 222 [] [] [.sl true 1 (words.map sT)] [] := by
 refine mk_contract [] Try.func222 (c := Try.f222.body.get!) (by kernel_rfl) k222 r222 (of_decide_eq_true rfl) fun _ => ?_
 unfold c222; simp [words]
theorem w186 (a : ByteArray) : Contract Try.prog false 186 [.ro] [.s a] [.b (decide (a ∈ words))] [] := by
 refine mk_contract [] Try.func186 (c := Try.f186.body.get!) (by kernel_rfl) k186 r186 (of_decide_eq_true rfl) fun _ => ?_
 unfold c186; simp
 refine callW_ms [] ?_
 simp
 refine callX_of (w222 ) (by simp) ?_
 simp
 have hwl := words_len
 generalize words = W at hwl
 refine twp_for W.length (fun j s => s.t 0 = .s a ∧ s.t 3 = .rf [(7, 0)] 0 W.length ∧ s.t 4 = .i .i64 j ∧ a ∉ W.take j ∧ s.H = lk [(1, []), (7, [.sl true 1 (W.map sT)])]) [] (by simp) ?_ ?_
 ·simp
 ·rintro j s hj ⟨q0, q3, q4, hn, qH⟩
  rw [nf_of qH]
  simp [q0, q3, q4]
  refine ⟨fun hlt => ?_, fun hge => ?_⟩
  ·have hw : IntKind.i64.wrap (j + 1) = j + 1 := wrap_id (by omega) (by omega)
   obtain ⟨x, hx⟩ := get_some hlt
   simp [hx, hw, q0, q3, q4]
   refine ⟨hlt, fun h => by subst h; exact List.mem_of_getElem? hx, fun h => ⟨hlt, ?_⟩⟩
   rw [take_snoc hx]; simp; exact ⟨hn, fun h2 => h h2.symm⟩
  ·obtain rfl : j = W.length := by omega
   rw [List.take_of_length_le (Nat.le_refl _)] at hn
   exact hn
def allLet (a : ByteArray) (j : Nat) : Prop := ∀ i < j, ∀ b : UInt8, a[i]? = some b → lettP b.toNat
def nameP (a : ByteArray) : Prop := (1 ≤ a.size ∧ a.size ≤ 12) ∧ allLet a a.size ∧ a ∉ words
noncomputable instance (a : ByteArray) : Decidable (nameP a) := Classical.propDecidable _
theorem get_byte {a : ByteArray} {j : Nat} (h : j < a.size) : ∃ b : UInt8, a[j]? = some b := ⟨a[j], by simp [h]⟩
theorem allLet_succ {a : ByteArray} {j : Nat} {b : UInt8} (h : a[j]? = some b) : allLet a (j + 1) ↔ allLet a j ∧ lettP b.toNat := by
 constructor
 ·intro h2; exact ⟨fun i hi => h2 i (by omega), h2 j (by omega) b h⟩
 ·rintro ⟨h1, h2⟩ i hi c hc
  rcases Nat.lt_or_ge i j with h3 | h3
  ·exact h1 i h3 c hc
  ·obtain rfl : i = j := by omega
   rw [h] at hc; cases hc; exact h2
theorem w145 (a : ByteArray) : Contract Try.prog false 145 [.ro] [.s a] [.b (decide (nameP a))] [] := by
 refine mk_contract [] Try.func145 (c := Try.f145.body.get!) (by kernel_rfl) k145 r145 (of_decide_eq_true rfl) fun _ => ?_
 unfold c145; simp
 by_cases hr : 1 ≤ (a.size : Int) ∧ (a.size : Int) ≤ 12
 ·refine callW_ms [.ro, .ro, .ro] ?_
  simp
  refine callX_of ((w87 _ _ _).t hr) (by simp) ?_
  simp
  refine twp_for a.size (fun j s => s.t 0 = .s a ∧ s.t 3 = .i .i64 j ∧ allLet a j ∧ s.H = lk [(1, [])]) [] (by simp) ?_ ?_
  ·simp [allLet]
  ·rintro j s hj ⟨q0, q3, hn, qH⟩
   rw [nf_of qH]
   simp [q0, q3]
   refine ⟨fun hlt => ?_, fun hge => ?_⟩
   ·have hw : IntKind.i64.wrap (j + 1) = j + 1 := wrap_id (by omega) (by omega)
    obtain ⟨b, hb⟩ := get_byte hlt
    simp [hb, hw, q0, q3]
    by_cases hl : lettP b.toNat
    ·refine callW_ms [.ro] ?_
     simp
     refine callX_of ((w185 b.toNat).t hl) (by simp) ?_
     simp [hw, q0, q3]
     exact ⟨hlt, (allLet_succ hb).2 ⟨hn, hl⟩⟩
    ·refine callW_ms [.ro] ?_
     simp
     refine callX_of ((w185 b.toNat).f hl) (by simp) ?_
     simp [hw, q0, q3]
     intro h; exact hl (h.2.1 j hlt b hb)
   ·obtain rfl : j = a.size := by omega
    have h1 : 1 ≤ a.size ∧ a.size ≤ 12 := by omega
    refine callW_ms [.ro] ?_
    simp
    refine callX_of (w186 a) (by simp) ?_
    simp [nameP, hn, h1]
 ·refine callW_ms [.ro, .ro, .ro] ?_
  simp
  refine callX_of ((w87 _ _ _).f hr) (by simp) ?_
  simp
  intro h; exact hr (by have := h.1; omega)
def regR (c r e : List (ByteArray × Int)) : TV := .ag [.sl false 2 (c.map dT), .sl false 2 (r.map dT), .sl false 2 (e.map dT)]
def regO (c r e : List (ByteArray × Int)) : TV := .ag [.sl true 2 (c.map dT), .sl true 2 (r.map dT), .sl true 2 (e.map dT)]
end Go.Proofs.YtmedelmfkciblaaT


namespace Go.Proofs.YtmedelmfkciblaaT
set_option linter.unusedVariables false
set_option linter.unusedSimpArgs false
open Go
theorem fzLL_mapR {α : Type} {f g : α → List TV} (h : ∀ x, fzL (f x) = g x) (l : List α) : fzLL (l.map f) = l.map g := by
 induction l with
 | nil => rfl
 | cons a l ih => simp [fzLL, h, ih]
@[simp] def cvT (v : List ValP) : List TV := [.sl false 4 (v.map vT)]
@[simp] def cvO (v : List ValP) : List TV := [.sl true 4 (v.map vT)]
@[simp] theorem fzL_cvO (v : List ValP) : fzL (cvO v) = cvT v := by simp
@[simp] theorem fzLL_cvO (l : List (List ValP)) : fzLL (l.map cvO) = l.map cvT := fzLL_mapR fzL_cvO l
@[simp] theorem noROLL_cvO (l : List (List ValP)) : noROLL (l.map cvO) = true := noROLL_map (fun _ => by simp [noROL, noRO]) l
abbrev TableP := List Int × List (Int × Int) × List (List ValP)
@[simp] def tbT (t : TableP) : List TV := [.sl false 1 (t.1.map iT), .sl false 2 (t.2.1.map eT), .sl false 1 (t.2.2.map cvT)]
@[simp] def tbO (t : TableP) : List TV := [.sl true 1 (t.1.map iT), .sl true 2 (t.2.1.map eT), .sl true 1 (t.2.2.map cvO)]
@[simp] theorem fzL_tbO (t : TableP) : fzL (tbO t) = tbT t := by simp
@[simp] theorem fzLL_tbO (l : List TableP) : fzLL (l.map tbO) = l.map tbT := fzLL_mapR fzL_tbO l
@[simp] theorem noROLL_tbO (l : List TableP) : noROLL (l.map tbO) = true := noROLL_map (fun _ => by simp [noROL, noRO]) l
abbrev worldR (g f : List Int) (ts : List TableP) (rs : List ValP) : TV := .ag [.sl false 1 (g.map iT), .sl false 1 (f.map iT), .sl false 3 (ts.map tbT), .sl false 4 (rs.map vT)]
abbrev worldO (g f : List Int) (ts : List TableP) (rs : List ValP) : TV := .ag [.sl true 1 (g.map iT), .sl true 1 (f.map iT), .sl true 3 (ts.map tbO), .sl true 4 (rs.map vT)]
def sumN {α : Type} (c : α → Nat) : List α → Nat
 | [] => 0
 | x :: l => c x + sumN c l
theorem sumN_take {α : Type} (c : α → Nat) (l : List α) (j : Nat) : sumN c (l.take j) ≤ sumN c l := by
 induction l generalizing j with
 | nil => simp [sumN]
 | cons y l ih => cases j with
  | zero => simp [sumN]
  | succ j => have := ih j; simp only [List.take_succ_cons, sumN]; omega
structure SzC {α : Type} (f : α → Int → Int) (c : α → Nat) : Prop where
 le : ∀ x m, 0 ≤ m → f x m ≤ m
 neg : ∀ x m, f x m < 0 → f x m = -1
 eq : ∀ x m, 0 ≤ m → 0 ≤ f x m → f x m = m - c x
abbrev WorldP := List Int × List Int × List TableP × List ValP
def okT (t : TableP) : Prop := t.1.length ≤ 2^36 ∧ t.2.1.length ≤ 2^36 ∧ t.2.2.length ≤ 2^36 ∧ ∀ v ∈ t.2.2, v.length ≤ 2^36
def okW (w : WorldP) : Prop := w.1.length ≤ 2^36 ∧ w.2.1.length ≤ 2^36 ∧ (w.2.2.1.length ≤ 2^36 ∧ ∀ t ∈ w.2.2.1, okT t) ∧ w.2.2.2.length ≤ 2^36
end Go.Proofs.YtmedelmfkciblaaT


namespace Go.Proofs.YtmedelmfkciblaaT
set_option linter.unusedVariables false
set_option linter.unusedSimpArgs false
open Go
end Go.Proofs.YtmedelmfkciblaaT


namespace Go.Proofs.YtmedelmfkciblaaT
set_option linter.unusedVariables false
set_option linter.unusedSimpArgs false
open Go
def c220 : TCode := (.seq (.ops [⟨(some 3), 5, .box 4 (.t 0), none, []⟩, ⟨(some 6), 8, .box 4 (.c (.ag [(.sl true 1 []), (.sl true 1 []), (.sl true 3 []), (.sl true 4 [])])), none, []⟩])
 (.seq (.ops [⟨(some 9), 11, .faddr 2 1 (.t 3), none, []⟩, ⟨(some 10), 12, .load false 1 (.t 9), none, []⟩, ⟨(some 11), 13, .mv (.t 1), none, []⟩, ⟨(some 12), 14, .iaddr 3 (.t 10) (.t 11), none, []⟩, ⟨(some 13), 15, .faddr 1 1 (.t 12), none, []⟩, ⟨(some 14), 16, .load false 1 (.t 13), none, []⟩, ⟨(some 15), 17, .len false (.t 14), none, []⟩, ⟨(some 16), 18, .bin .sub (.t 15) (.c (.i .i64 1)), none, []⟩, ⟨(some 7), 9, .mv (.t 16), none, []⟩])
 (.seq (.draw [⟨(some 17), 19, .faddr 2 1 (.t 3), none, []⟩, ⟨(some 18), 20, .load false 1 (.t 17), none, []⟩, ⟨(some 19), 21, .mv (.t 1), none, []⟩, ⟨(some 20), 22, .iaddr 3 (.t 18) (.t 19), none, []⟩, ⟨(some 21), 23, .faddr 1 1 (.t 20), none, []⟩, ⟨(some 22), 24, .load false 1 (.t 21), none, []⟩, ⟨(some 23), 25, .mv (.t 2), none, []⟩, ⟨(some 24), 26, .faddr 2 1 (.t 3), none, []⟩, ⟨(some 25), 27, .load false 1 (.t 24), none, []⟩, ⟨(some 26), 28, .mv (.t 1), none, []⟩, ⟨(some 27), 29, .iaddr 3 (.t 25) (.t 26), none, []⟩, ⟨(some 28), 30, .faddr 1 1 (.t 27), none, []⟩, ⟨(some 29), 31, .load false 1 (.t 28), none, []⟩, ⟨(some 30), 32, .mv (.t 7), none, []⟩, ⟨(some 31), 33, .iaddr 2 (.t 29) (.t 30), none, []⟩, ⟨(some 32), 34, .load true 2 (.t 31), none, []⟩, ⟨(some 33), 35, .iaddr 2 (.t 22) (.t 23), none, []⟩, ⟨none, 1002017, .store 2 (.t 33) (.t 32), none, []⟩])
 (.seq (.draw [⟨(some 34), 36, .faddr 2 1 (.t 3), none, []⟩, ⟨(some 35), 37, .load false 1 (.t 34), none, []⟩, ⟨(some 36), 38, .mv (.t 1), none, []⟩, ⟨(some 37), 39, .faddr 2 1 (.t 3), none, []⟩, ⟨(some 38), 40, .load false 1 (.t 37), none, []⟩, ⟨(some 39), 41, .mv (.t 1), none, []⟩, ⟨(some 40), 42, .iaddr 3 (.t 38) (.t 39), none, []⟩, ⟨(some 41), 43, .faddr 1 1 (.t 40), none, []⟩, ⟨(some 42), 44, .load false 1 (.t 41), none, []⟩, ⟨(some 43), 45, .mv (.t 7), none, []⟩, ⟨(some 44), 46, .slice false 2 (.t 42) none (some (.t 43)), none, []⟩, ⟨(some 45), 47, .iaddr 3 (.t 35) (.t 36), none, []⟩, ⟨(some 46), 48, .faddr 1 1 (.t 45), none, []⟩, ⟨none, 1003013, .store 1 (.t 46) (.t 44), none, []⟩])
 (.seq (.seq (.ops [⟨(some 8), 10, .mv (.c (.i .i64 0)), none, []⟩])
 (.block 0 (.loop (.seq (.seq (.ops [⟨(some 47), 49, .mv (.t 8), none, []⟩, ⟨(some 48), 50, .faddr 2 1 (.t 3), none, []⟩, ⟨(some 49), 51, .load false 1 (.t 48), none, []⟩, ⟨(some 50), 52, .mv (.t 1), none, []⟩, ⟨(some 51), 53, .iaddr 3 (.t 49) (.t 50), none, []⟩, ⟨(some 52), 54, .faddr 2 1 (.t 51), none, []⟩, ⟨(some 53), 55, .load false 1 (.t 52), none, []⟩, ⟨(some 54), 56, .len false (.t 53), none, []⟩, ⟨(some 55), 57, .bin .lss (.t 47) (.t 54), none, []⟩])
 (.cond (.t 55)
 .skip
 (.exit 0)))
 (.seq (.block 1 (.seq (.draw [⟨(some 58), 60, .faddr 2 1 (.t 3), none, []⟩, ⟨(some 59), 61, .load false 1 (.t 58), none, []⟩, ⟨(some 60), 62, .mv (.t 1), none, []⟩, ⟨(some 61), 63, .iaddr 3 (.t 59) (.t 60), none, []⟩, ⟨(some 62), 64, .faddr 2 1 (.t 61), none, []⟩, ⟨(some 63), 65, .load false 1 (.t 62), none, []⟩, ⟨(some 64), 66, .mv (.t 8), none, []⟩, ⟨(some 65), 67, .iaddr 1 (.t 63) (.t 64), none, []⟩, ⟨(some 66), 68, .load false 1 (.t 65), none, []⟩, ⟨(some 67), 69, .mv (.t 2), none, []⟩, ⟨(some 68), 70, .faddr 2 1 (.t 3), none, []⟩, ⟨(some 69), 71, .load false 1 (.t 68), none, []⟩, ⟨(some 70), 72, .mv (.t 1), none, []⟩, ⟨(some 71), 73, .iaddr 3 (.t 69) (.t 70), none, []⟩, ⟨(some 72), 74, .faddr 2 1 (.t 71), none, []⟩, ⟨(some 73), 75, .load false 1 (.t 72), none, []⟩, ⟨(some 74), 76, .mv (.t 8), none, []⟩, ⟨(some 75), 77, .iaddr 1 (.t 73) (.t 74), none, []⟩, ⟨(some 76), 78, .load false 1 (.t 75), none, []⟩, ⟨(some 77), 79, .mv (.t 7), none, []⟩, ⟨(some 78), 80, .iaddr 4 (.t 76) (.t 77), none, []⟩, ⟨(some 79), 81, .load true 4 (.t 78), none, []⟩, ⟨(some 80), 82, .iaddr 4 (.t 66) (.t 67), none, []⟩, ⟨none, 1007023, .store 4 (.t 80) (.t 79), none, []⟩])
 (.draw [⟨(some 81), 83, .faddr 2 1 (.t 3), none, []⟩, ⟨(some 82), 84, .load false 1 (.t 81), none, []⟩, ⟨(some 83), 85, .mv (.t 1), none, []⟩, ⟨(some 84), 86, .iaddr 3 (.t 82) (.t 83), none, []⟩, ⟨(some 85), 87, .faddr 2 1 (.t 84), none, []⟩, ⟨(some 86), 88, .load false 1 (.t 85), none, []⟩, ⟨(some 87), 89, .mv (.t 8), none, []⟩, ⟨(some 88), 90, .faddr 2 1 (.t 3), none, []⟩, ⟨(some 89), 91, .load false 1 (.t 88), none, []⟩, ⟨(some 90), 92, .mv (.t 1), none, []⟩, ⟨(some 91), 93, .iaddr 3 (.t 89) (.t 90), none, []⟩, ⟨(some 92), 94, .faddr 2 1 (.t 91), none, []⟩, ⟨(some 93), 95, .load false 1 (.t 92), none, []⟩, ⟨(some 94), 96, .mv (.t 8), none, []⟩, ⟨(some 95), 97, .iaddr 1 (.t 93) (.t 94), none, []⟩, ⟨(some 96), 98, .load false 1 (.t 95), none, []⟩, ⟨(some 97), 99, .mv (.t 7), none, []⟩, ⟨(some 98), 100, .slice false 4 (.t 96) none (some (.t 97)), none, []⟩, ⟨(some 99), 101, .iaddr 1 (.t 86) (.t 87), none, []⟩, ⟨none, 1008019, .store 1 (.t 99) (.t 98), none, []⟩])))
 (.ops [⟨(some 56), 58, .mv (.t 8), none, []⟩, ⟨(some 57), 59, .bin .add (.t 56) (.c (.i .i64 1)), none, []⟩, ⟨(some 8), 10, .mv (.t 57), none, []⟩]))))))
 (.seq (.ops [⟨(some 100), 102, .load true 4 (.t 3), none, []⟩, ⟨none, 1009001, .store 4 (.t 6) (.t 100), none, []⟩])
 .ret))))))
theorem k220 : compCode Try.prog Try.f220.ntmps Try.f220.body.get! = some c220 := by kernel_rfl
theorem r220 : resTmps Try.prog Try.f220.results.toList = some [.cell 6 true 4] := by kernel_rfl
def leaveL {α : Type} (l : List α) (k : Nat) : List α := match l[l.length - 1]? with
 | some z => (l.set k z).take (l.length - 1)
 | none => []
theorem leaveL_some {α : Type} {l : List α} {k : Nat} {z : α} (h : l[l.length - 1]? = some z) : leaveL l k = (l.set k z).take (l.length - 1) := by unfold leaveL; rw [h]
theorem leaveL_len {α : Type} {l : List α} {k : Nat} (h : 0 < l.length) : (leaveL l k).length = l.length - 1 := by
 obtain ⟨z, hz⟩ : ∃ z, l[l.length - 1]? = some z := get_some (by omega)
 rw [leaveL_some hz]; simp
def leaveT (t : TableP) (k : Nat) : TableP := (t.1, leaveL t.2.1 k, t.2.2.map fun v => leaveL v k)
theorem tk_off {α : Type} (m : Nat) (L : List α) : (L.drop (offE 0 m)).take m = L.take m := by
 by_cases h : m = 0
 ·subst h; simp
 ·have : offE 0 m = 0 := by simp [offE, h]
  rw [this, List.drop_zero]
theorem map_mod {α : Type} {f : α → List TV} {l : List α} {k : Nat} {y z : α} {φ : List TV → List TV} (hy : l[k]? = some y) (h : φ (f y) = f z) : (l.map f).modify k φ = (l.set k z).map f := by
 apply List.ext_getElem?
 intro i
 by_cases hi : i = k
 ·subst hi
  have hl := (List.getElem?_eq_some_iff.1 hy).1
  have e := (List.getElem?_eq_some_iff.1 hy).2
  simp [List.getElem?_modify, hl, List.getElem?_set_self]
  rw [e]; exact h
 ·simp [List.getElem?_modify, List.getElem?_set_ne (Ne.symm hi), hi, Ne.symm hi]
theorem mod_mod {α : Type} (l : List α) (k : Nat) (φ ψ : α → α) : (l.modify k φ).modify k ψ = l.modify k (fun x => ψ (φ x)) := by
 apply List.ext_getElem?
 intro i
 simp only [List.getElem?_modify]
 by_cases hi : k = i
 ·simp [hi]; rfl
 ·simp [hi]
theorem mod_eT {l : List (Int × Int)} {k : Nat} {y : Int × Int} (z : Int × Int) (hy : l[k]? = some y) :
  ((l.map eT).modify k fun e => e.modify 0 fun x => TV.i .i64 z.1).modify k (fun e => e.modify 1 fun x => TV.i .i64 z.2) = (l.set k z).map eT := by
 rw [mod_mod]
 exact map_mod hy rfl
theorem mod_vT {l : List ValP} {k : Nat} {y : ValP} (z : ValP) (hy : l[k]? = some y) :
  ((((l.map vT).modify k fun e => e.modify 0 fun x => TV.i .i64 z.1).modify k fun e => e.modify 1 fun x => TV.i .i64 z.2.1).modify k fun e => e.modify 2 fun x => TV.f z.2.2.1).modify k (fun e => e.modify 3 fun x => TV.f z.2.2.2) = (l.set k z).map vT := by
 rw [mod_mod, mod_mod, mod_mod]
 exact map_mod hy rfl
def lvd (C : List (List ValP)) (k j : Nat) (L : List (List ValP)) : Prop := L = (C.take j).map fun v => leaveL v k
set_option maxRecDepth 100000 in
theorem w220 (g f : List Int) (A B : List TableP) (t : TableP) (rs : List ValP) (k : Nat) (hA : A.length ≤ 2^36) (hB : B.length ≤ 2^36) (hk : k < t.2.1.length) (hl : t.2.1.length ≤ 2^36) (hc : t.2.2.length ≤ 2^36) (hv : ∀ v ∈ t.2.2, v.length = t.2.1.length) : Contract Try.prog false 220 [.own, .ro, .ro] [worldO g f (A ++ t :: B) rs, .i .i64 A.length, .i .i64 k] [worldO g f (A ++ leaveT t k :: B) rs] [none, none, none, none] := by
 refine mk_contract [none, none, none, none] Try.func220 (c := Try.f220.body.get!) (by kernel_rfl) k220 r220 (of_decide_eq_true rfl) fun _ => ?_
 obtain ⟨t1, t2, t3⟩ := t
 simp only [leaveT] at hk hl hc hv ⊢
 obtain ⟨z, hz⟩ : ∃ z, t2[t2.length - 1]? = some z := get_some (by omega)
 obtain ⟨y, hy⟩ : ∃ y, t2[k]? = some y := get_some hk
 rw [leaveL_some hz]
 have hw1 : IntKind.i64.wrap ((t2.length : Int) - 1) = ((t2.length - 1 : Nat) : Int) := by rw [wrap_id (by omega) (by omega)]; omega
 unfold c220; simp [hw1, hz, hy, hk]
 refine ⟨by omega, by omega, by omega, ?_⟩
 rw [tk_off, mod_eT z hy]
 obtain ⟨R, hR⟩ : ∃ R, R = (t2.set k z).take (t2.length - 1) := ⟨_, rfl⟩
 rw [← List.map_take, ← hR]
 refine twp_for t3.length (fun j s => ∃ (L : List (List ValP)), lvd t3 k j L ∧ L.length = j ∧ s.t 1 = .i .i64 A.length ∧ s.t 2 = .i .i64 k ∧ s.t 3 = .pt [(5, 0)] 0 0 ∧ s.t 6 = .pt [(8, 0)] 0 0 ∧ s.t 7 = .i .i64 ((t2.length - 1 : Nat) : Int) ∧ s.t 8 = .i .i64 j ∧ s.H = lk [(1, [.junk, .junk, .junk, .junk]), (5, [.po true [.sl true 1 (g.map iT), .sl true 1 (f.map iT), .sl true 3 (A.map tbO ++ [.sl true 1 (t1.map iT), .sl true 2 (R.map eT), .sl true 1 (L.map cvO ++ (t3.map cvO).drop j)] :: B.map tbO), .sl true 4 (rs.map vT)]]), (8, [.po true [.sl true 1 [], .sl true 1 [], .sl true 3 [], .sl true 4 []]])]) [] (by simp) ?_ ?_
 ·refine ⟨[], rfl, rfl, ?_⟩
  simp
 ·rintro j s hj ⟨L, hL, hLl, q1, q2, q3, q6, q7, q8, qH⟩
  rw [nf_of qH]
  have hw : IntKind.i64.wrap ((j : Int) + 1) = j + 1 := wrap_id (by omega) (by omega)
  cases hb9 : decide (j < t3.length)
  ·have hge := of_decide_eq_false hb9
   obtain rfl : j = t3.length := by omega
   have hL' : L = t3.map fun v => leaveL v k := by unfold lvd at hL; rw [hL, List.take_length]
   have hd : (t3.map cvO).drop t3.length = [] := List.drop_eq_nil_of_le (by simp)
   simp [q1, q2, q3, q6, q7, q8, hb9, hLl, hd]
   refine ⟨by omega, ?_⟩
   rw [hL', List.map_map]
  ·have hlt := of_decide_eq_true hb9
   obtain ⟨x, hx⟩ := get_some hlt
   have hxl := hv x (List.mem_of_getElem? hx)
   obtain ⟨xz, hxz⟩ : ∃ z, x[t2.length - 1]? = some z := get_some (by omega)
   obtain ⟨xy, hxy⟩ : ∃ y, x[k]? = some y := get_some (by omega)
   simp [q1, q2, q3, q6, q7, q8, hb9, hLl, drop_at hx, hw, hxz, hxy]
   refine ⟨by omega, fun _ => ⟨by omega, by omega, by omega, by omega, by omega, by omega, by omega, by omega, by omega, by omega, hlt, L ++ [leaveL x k], ?_, by simp [hLl], ?_⟩, fun h => absurd h (by omega)⟩
   ·unfold lvd at hL ⊢
    rw [hL, take_snoc hx]; simp
   ·rw [tk_off, mod_vT xz hxy]
    have hxz' : x[x.length - 1]? = some xz := by rw [hxl]; exact hxz
    simp [leaveL_some hxz', hxl]
end Go.Proofs.YtmedelmfkciblaaT

