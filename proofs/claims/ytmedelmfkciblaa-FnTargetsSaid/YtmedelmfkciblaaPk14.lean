/- Texts of this session's own, one behind the other: Ks0, Ks1, Ks4, Kd3. -/
import Derived.Test.YtmedelmfkciblaaPk13
import Derived.Test.YtmedelmfkciblaaProg
import Derived.Shelf.Sort.Plain
import Derived.Shelf.Slices.In.SortNone
import Derived.Shelf.Slices.CompactI
namespace Go.Proofs
open Go.Shelf
def Try.lays189_ren : Go.Shelf.Ren := ⟨fun | 189 => 135 | 125 => 170 | 257 => 169 | 128 => 210 | 129 => 211 | 294 => 201 | 295 => 202 | 296 => 203 | 297 => 204 | 298 => 205 | 299 => 206 | 216 => 207 | 300 => 208 | 301 => 209 | 328 => 226 | 329 => 227 | 330 => 228 | 331 => 229 | 332 => 230 | 215 => 231 | 343 => 236 | n => n, fun | 28 => 22 | 3 => 3 | 46 => 206 | 0 => 0 | 51 => 245 | 53 => 247 | 4 => 4 | 183 => 237 | 182 => 236 | 131 => 242 | 5 => 5 | 9 => 9 | 218 => 263 | 222 => 267 | 228 => 272 | 229 => 98 | n => n, fun | n => n⟩
theorem Try.lays189 : Go.Proofs.Lays.n189 Try.prog Try.lays189_ren := {
 mixed := by kernel_rfl
 f125 := Try.func170.trans (congrArg some (by kernel_rfl))
 f128 := Try.func210.trans (congrArg some (by kernel_rfl))
 f129 := Try.func211.trans (congrArg some (by kernel_rfl))
 f189 := Try.func135.trans (congrArg some (by kernel_rfl))
 f215 := Try.func231.trans (congrArg some (by kernel_rfl))
 f216 := Try.func207.trans (congrArg some (by kernel_rfl))
 f257 := Try.func169.trans (congrArg some (by kernel_rfl))
 f294 := Try.func201.trans (congrArg some (by kernel_rfl))
 f295 := Try.func202.trans (congrArg some (by kernel_rfl))
 f296 := Try.func203.trans (congrArg some (by kernel_rfl))
 f297 := Try.func204.trans (congrArg some (by kernel_rfl))
 f298 := Try.func205.trans (congrArg some (by kernel_rfl))
 f299 := Try.func206.trans (congrArg some (by kernel_rfl))
 f300 := Try.func208.trans (congrArg some (by kernel_rfl))
 f301 := Try.func209.trans (congrArg some (by kernel_rfl))
 f328 := Try.func226.trans (congrArg some (by kernel_rfl))
 f329 := Try.func227.trans (congrArg some (by kernel_rfl))
 f330 := Try.func228.trans (congrArg some (by kernel_rfl))
 f331 := Try.func229.trans (congrArg some (by kernel_rfl))
 f332 := Try.func230.trans (congrArg some (by kernel_rfl))
 f343 := Try.func236.trans (congrArg some (by kernel_rfl))
 t0 := Try.underlying0
 a0 := Try.isAgg0
 z0 := Try.sizeOf0
 v0 := Try.zeroValue0
 t3 := Try.underlying3
 a3 := Try.isAgg3
 z3 := Try.sizeOf3
 v3 := Try.zeroValue3
 t4 := Try.underlying4
 a4 := Try.isAgg4
 z4 := Try.sizeOf4
 v4 := Try.zeroValue4
 t5 := Try.underlying5
 a5 := Try.isAgg5
 z5 := Try.sizeOf5
 v5 := Try.zeroValue5
 t9 := Try.underlying9
 a9 := Try.isAgg9
 z9 := Try.sizeOf9
 v9 := Try.zeroValue9
 t28 := Try.underlying22
 a28 := Try.isAgg22
 z28 := Try.sizeOf22
 v28 := Try.zeroValue22
 t46 := Try.underlying206
 a46 := Try.isAgg206
 z46 := Try.sizeOf206
 v46 := Try.zeroValue206
 t51 := Try.underlying245
 a51 := Try.isAgg245
 z51 := Try.sizeOf245
 v51 := Try.zeroValue245
 t53 := Try.underlying247
 a53 := Try.isAgg247
 z53 := Try.sizeOf247
 v53 := Try.zeroValue247
 t131 := Try.underlying242
 a131 := Try.isAgg242
 z131 := Try.sizeOf242
 v131 := Try.zeroValue242
 t182 := Try.underlying236
 a182 := Try.isAgg236
 z182 := Try.sizeOf236
 v182 := Try.zeroValue236
 t183 := Try.underlying237
 a183 := Try.isAgg237
 z183 := Try.sizeOf237
 v183 := Try.zeroValue237
 t218 := Try.underlying263
 a218 := Try.isAgg263
 z218 := Try.sizeOf263
 v218 := Try.zeroValue263
 t222 := Try.underlying267
 a222 := Try.isAgg267
 z222 := Try.sizeOf267
 v222 := Try.zeroValue267
 t228 := Try.underlying272
 a228 := Try.isAgg272
 z228 := Try.sizeOf272
 v228 := Try.zeroValue272
 t229 := Try.underlying98
 a229 := Try.isAgg98
 z229 := Try.sizeOf98
 v229 := Try.zeroValue98 }
def Try.lays20_ren : Go.Shelf.Ren := ⟨fun | 20 => 136 | n => n, fun | 22 => 22 | 3 => 3 | 4 => 4 | 0 => 0 | n => n, fun | n => n⟩
theorem Try.lays20 : Go.Proofs.Lays2.n20 Try.prog Try.lays20_ren := {
 mixed := by kernel_rfl
 f20 := Try.func136.trans (congrArg some (by kernel_rfl))
 t0 := Try.underlying0
 a0 := Try.isAgg0
 z0 := Try.sizeOf0
 v0 := Try.zeroValue0
 t3 := Try.underlying3
 a3 := Try.isAgg3
 z3 := Try.sizeOf3
 v3 := Try.zeroValue3
 t4 := Try.underlying4
 a4 := Try.isAgg4
 z4 := Try.sizeOf4
 v4 := Try.zeroValue4
 t22 := Try.underlying22
 a22 := Try.isAgg22
 z22 := Try.sizeOf22
 v22 := Try.zeroValue22
 i3 := by kernel_rfl }
end Go.Proofs


namespace Go.Proofs.YtmedelmfkciblaaT
set_option linter.unusedVariables false
set_option linter.unusedSimpArgs false
open Go
def c78 : TCode := (.seq (.ops [⟨(some 2), 4, .mv (.c (.sl true 1 [])), none, []⟩])
 (.seq (.ops [⟨(some 3), 5, .mv (.t 0), none, []⟩, ⟨(some 4), 6, .call 135 [((.t 3), 0)], none, []⟩])
 (.seq (.ops [⟨(some 5), 7, .mv (.t 0), none, []⟩, ⟨(some 6), 8, .call 136 [((.t 5), 0)], none, []⟩, ⟨(some 2), 4, .mv (.t 6), none, []⟩])
 .ret)))
theorem k78 : compCode Try.prog Try.f78.ntmps Try.f78.body.get! = some c78 := by kernel_rfl
theorem r78 : resTmps Try.prog Try.f78.results.toList = some [.tmp 2] := by kernel_rfl
theorem w135 (zs : List Int) (h : zs.length ≤ 2^40) : Contract Try.prog false 135 [.own] [.sl true 1 (zs.map iT)] [] [some (.sl true 1 ((srt zs).map iT))] :=
 contract_turn (List.length_mergeSort zs) (fun blk off cap w hH hb hc => Any.slices_Sort_int Try.lays189 blk off cap zs w hH hb (by omega))
  (fun h w => Any.slices_Sort_int_none Try.lays189 none 0 w)
theorem w136 (zs : List Int) (h : zs.length ≤ 2^40) : Contract Try.prog false 136 [.own] [.sl true 1 (zs.map iT)] [.sl true 1 ((Lib.compact zs).map iT)] [none] := by
 have hle := compact_le zs
 refine contract_cut (zs' := Lib.compact zs ++ List.replicate (zs.length - (Lib.compact zs).length) 0) (Lib.compact zs) (by simp; omega) ⟨(Lib.compact zs).length, by simp, by simp⟩ (fun blk off cap w hH hb hc => ?_) (fun h w => ?_)
 ·refine (Any.slices_Compact_int Try.lays20 blk off cap zs w hH (by omega) hc).mono ?_
  rintro e w' ⟨h1, q, h2⟩
  exact ⟨h1, q, #[], by rw [h2, Go.Sort.grow_empty]⟩
 ·exact Any.slices_Compact_int_empty Try.lays20 none 0 w
theorem w78 (l : List Int) (h : l.length ≤ 2^40) : Contract Try.prog false 78 [.own] [.sl true 1 (l.map iT)] [.sl true 1 ((asc l).map iT)] [none] := by
 refine mk_contract [none] Try.func78 (c := Try.f78.body.get!) (by kernel_rfl) k78 r78 (of_decide_eq_true rfl) fun _ => ?_
 unfold c78; simp
 refine callW_ms [.own] ?_
 simp
 refine callX_of (w135 l h) (by simp) ?_
 simp
 refine callW_ms [.own] ?_
 simp
 refine callX_of (w136 (srt l) (by rw [List.length_mergeSort]; exact h)) (by simp) ?_
 simp
 rfl
end Go.Proofs.YtmedelmfkciblaaT


namespace Go.Proofs.YtmedelmfkciblaaT
set_option linter.unusedVariables false
set_option linter.unusedSimpArgs false
open Go
def c28 : TCode := (.seq (.ops [⟨(some 2), 4, .mv (.c (.sl true 1 [])), none, []⟩])
 (.seq (.ops [⟨(some 6), 8, .bslice 1 0 [(.i .i64 0)] [], none, []⟩, ⟨(some 3), 5, .mv (.t 6), none, []⟩])
 (.seq (.seq (.ops [⟨(some 4), 6, .mv (.c (.i .i64 0)), none, []⟩])
 (.block 0 (.loop (.seq (.seq (.ops [⟨(some 7), 9, .mv (.t 4), none, []⟩, ⟨(some 8), 10, .mv (.t 0), none, []⟩, ⟨(some 9), 11, .len false (.t 8), none, []⟩, ⟨(some 10), 12, .bin .lss (.t 7) (.t 9), none, []⟩])
 (.cond (.t 10)
 .skip
 (.exit 0)))
 (.seq (.block 1 (.seq (.ops [⟨(some 13), 15, .mv (.t 0), none, []⟩, ⟨(some 14), 16, .mv (.t 4), none, []⟩, ⟨(some 15), 17, .iaddr 9 (.t 13) (.t 14), none, []⟩, ⟨(some 16), 18, .faddr 0 1 (.t 15), none, []⟩, ⟨(some 17), 19, .load false 1 (.t 16), none, []⟩])
 (.block 2 (.seq (.ops [⟨(some 19), 21, .bin .eql (.t 17) (.c (.i .i64 1)), none, []⟩, ⟨(some 18), 20, .mv (.t 19), none, []⟩])
 (.cond (.t 18)
 (.seq (.ops [⟨(some 5), 7, .mv (.c (.i .i64 0)), none, []⟩])
 (.block 3 (.loop (.seq (.seq (.ops [⟨(some 20), 22, .mv (.t 5), none, []⟩, ⟨(some 21), 23, .mv (.t 0), none, []⟩, ⟨(some 22), 24, .mv (.t 4), none, []⟩, ⟨(some 23), 25, .iaddr 9 (.t 21) (.t 22), none, []⟩, ⟨(some 24), 26, .faddr 8 1 (.t 23), none, []⟩, ⟨(some 25), 27, .load false 1 (.t 24), none, []⟩, ⟨(some 26), 28, .len false (.t 25), none, []⟩, ⟨(some 27), 29, .bin .lss (.t 20) (.t 26), none, []⟩])
 (.cond (.t 27)
 .skip
 (.exit 3)))
 (.seq (.block 4 (.ops [⟨(some 30), 32, .mv (.t 3), none, []⟩, ⟨(some 31), 33, .mv (.t 0), none, []⟩, ⟨(some 32), 34, .mv (.t 4), none, []⟩, ⟨(some 33), 35, .iaddr 9 (.t 31) (.t 32), none, []⟩, ⟨(some 34), 36, .faddr 8 1 (.t 33), none, []⟩, ⟨(some 35), 37, .load false 1 (.t 34), none, []⟩, ⟨(some 36), 38, .mv (.t 5), none, []⟩, ⟨(some 37), 39, .iaddr 5 (.t 35) (.t 36), none, []⟩, ⟨(some 38), 40, .faddr 0 1 (.t 37), none, []⟩, ⟨(some 39), 41, .load false 1 (.t 38), none, []⟩, ⟨(some 40), 42, .bslice 1 1 [(.i .i64 0)] [(0, (.t 39))], none, []⟩, ⟨(some 41), 43, .app 1 8 (.t 30) (.t 40), none, []⟩, ⟨(some 3), 5, .mv (.t 41), none, []⟩]))
 (.ops [⟨(some 28), 30, .mv (.t 5), none, []⟩, ⟨(some 29), 31, .bin .add (.t 28) (.c (.i .i64 1)), none, []⟩, ⟨(some 5), 7, .mv (.t 29), none, []⟩]))))))
 (.seq (.seq (.ops [⟨(some 43), 45, .bin .eql (.t 17) (.c (.i .i64 3)), none, []⟩, ⟨(some 42), 44, .mv (.t 43), none, []⟩])
 (.cond (.t 42)
 .skip
 (.ops [⟨(some 44), 46, .bin .eql (.t 17) (.c (.i .i64 4)), none, []⟩, ⟨(some 42), 44, .mv (.t 44), none, []⟩])))
 (.cond (.t 42)
 (.ops [⟨(some 45), 47, .mv (.t 3), none, []⟩, ⟨(some 46), 48, .mv (.t 0), none, []⟩, ⟨(some 47), 49, .mv (.t 4), none, []⟩, ⟨(some 48), 50, .iaddr 9 (.t 46) (.t 47), none, []⟩, ⟨(some 49), 51, .faddr 3 1 (.t 48), none, []⟩, ⟨(some 50), 52, .load false 1 (.t 49), none, []⟩, ⟨(some 51), 53, .bslice 1 1 [(.i .i64 0)] [(0, (.t 50))], none, []⟩, ⟨(some 52), 54, .app 1 8 (.t 45) (.t 51), none, []⟩, ⟨(some 3), 5, .mv (.t 52), none, []⟩])
 .skip)))))))
 (.ops [⟨(some 11), 13, .mv (.t 4), none, []⟩, ⟨(some 12), 14, .bin .add (.t 11) (.c (.i .i64 1)), none, []⟩, ⟨(some 4), 6, .mv (.t 12), none, []⟩]))))))
 (.seq (.ops [⟨(some 53), 55, .mv (.t 3), none, []⟩, ⟨(some 54), 56, .call 77 [((.t 53), 0)], none, []⟩, ⟨(some 2), 4, .mv (.t 54), none, []⟩])
 .ret))))
theorem k28 : compCode Try.prog Try.f28.ntmps Try.f28.body.get! = some c28 := by kernel_rfl
theorem r28 : resTmps Try.prog Try.f28.results.toList = some [.tmp 2] := by kernel_rfl
def c30 : TCode := (.seq (.ops [⟨(some 2), 4, .mv (.c (.sl true 1 [])), none, []⟩])
 (.seq (.ops [⟨(some 8), 10, .bslice 1 0 [(.i .i64 0)] [], none, []⟩, ⟨(some 3), 5, .mv (.t 8), none, []⟩])
 (.seq (.seq (.ops [⟨(some 9), 11, .mv (.t 0), none, []⟩, ⟨(some 10), 12, .len false (.t 9), none, []⟩, ⟨(some 11), 13, .mv (.c (.i .i64 0)), none, []⟩])
 (.block 0 (.loop (.seq (.ops [⟨(some 12), 14, .bin .lss (.t 11) (.t 10), none, []⟩])
 (.seq (.cond (.t 12)
 .skip
 (.exit 0))
 (.seq (.block 1 (.seq (.ops [⟨(some 13), 15, .iaddr 9 (.t 9) (.t 11), none, []⟩, ⟨(some 14), 16, .load true 9 (.t 13), none, []⟩, ⟨(some 5), 7, .box 9 (.c (.ag [(.i .i64 0), (.i .i64 0), (.i .i64 0), (.i .i64 0), (.i .i64 0), (.i .i64 0), (.f 0), (.f 0), (.sl true 5 [])])), none, []⟩, ⟨none, 1004003, .store 9 (.t 5) (.t 14), none, []⟩])
 (.seq (.ops [⟨(some 15), 17, .faddr 0 1 (.t 5), none, []⟩, ⟨(some 16), 18, .load false 1 (.t 15), none, []⟩])
 (.block 2 (.seq (.ops [⟨(some 18), 20, .bin .eql (.t 16) (.c (.i .i64 1)), none, []⟩, ⟨(some 17), 19, .mv (.t 18), none, []⟩])
 (.cond (.t 17)
 (.seq (.ops [⟨(some 19), 21, .faddr 8 1 (.t 5), none, []⟩, ⟨(some 20), 22, .load false 1 (.t 19), none, []⟩, ⟨(some 21), 23, .len false (.t 20), none, []⟩, ⟨(some 22), 24, .mv (.c (.i .i64 0)), none, []⟩])
 (.block 3 (.loop (.seq (.ops [⟨(some 23), 25, .bin .lss (.t 22) (.t 21), none, []⟩])
 (.seq (.cond (.t 23)
 .skip
 (.exit 3))
 (.seq (.block 4 (.seq (.ops [⟨(some 24), 26, .iaddr 5 (.t 20) (.t 22), none, []⟩, ⟨(some 25), 27, .load true 5 (.t 24), none, []⟩, ⟨(some 7), 9, .box 5 (.c (.ag [(.i .i64 0), (.i .i64 0), (.i .i64 0), (.f 0), (.f 0)])), none, []⟩, ⟨none, 1009003, .store 5 (.t 7) (.t 25), none, []⟩])
 (.ops [⟨(some 26), 28, .mv (.t 3), none, []⟩, ⟨(some 27), 29, .faddr 0 1 (.t 7), none, []⟩, ⟨(some 28), 30, .load false 1 (.t 27), none, []⟩, ⟨(some 29), 31, .bslice 1 1 [(.i .i64 0)] [(0, (.t 28))], none, []⟩, ⟨(some 30), 32, .app 1 8 (.t 26) (.t 29), none, []⟩, ⟨(some 3), 5, .mv (.t 30), none, []⟩])))
 (.ops [⟨(some 31), 33, .bin .add (.t 22) (.c (.i .i64 1)), none, []⟩, ⟨(some 22), 24, .mv (.t 31), none, []⟩])))))))
 (.seq (.seq (.ops [⟨(some 33), 35, .bin .eql (.t 16) (.c (.i .i64 3)), none, []⟩, ⟨(some 32), 34, .mv (.t 33), none, []⟩])
 (.cond (.t 32)
 .skip
 (.ops [⟨(some 34), 36, .bin .eql (.t 16) (.c (.i .i64 4)), none, []⟩, ⟨(some 32), 34, .mv (.t 34), none, []⟩])))
 (.cond (.t 32)
 (.ops [⟨(some 35), 37, .mv (.t 3), none, []⟩, ⟨(some 36), 38, .faddr 3 1 (.t 5), none, []⟩, ⟨(some 37), 39, .load false 1 (.t 36), none, []⟩, ⟨(some 38), 40, .bslice 1 1 [(.i .i64 0)] [(0, (.t 37))], none, []⟩, ⟨(some 39), 41, .app 1 8 (.t 35) (.t 38), none, []⟩, ⟨(some 3), 5, .mv (.t 39), none, []⟩])
 .skip))))))))
 (.ops [⟨(some 40), 42, .bin .add (.t 11) (.c (.i .i64 1)), none, []⟩, ⟨(some 11), 13, .mv (.t 40), none, []⟩])))))))
 (.seq (.ops [⟨(some 41), 43, .mv (.t 3), none, []⟩, ⟨(some 42), 44, .call 78 [((.t 41), 0)], none, []⟩, ⟨(some 2), 4, .mv (.t 42), none, []⟩])
 .ret))))
theorem k30 : compCode Try.prog Try.f30.ntmps Try.f30.body.get! = some c30 := by kernel_rfl
theorem r30 : resTmps Try.prog Try.f30.results.toList = some [.tmp 2] := by kernel_rfl
def cmps (l : List CellP) : List Int := l.map (·.1)
@[simp] theorem cmps_nil : cmps [] = [] := rfl
@[simp] theorem cmps_len (l : List CellP) : (cmps l).length = l.length := by simp [cmps]
theorem cmps_at {l : List CellP} {c : CellP} {i : Nat} (h : l[i]? = some c) : cmps (l.take (i + 1)) = cmps (l.take i) ++ [c.1] := by
 rw [take_snoc h]; simp [cmps]
def tgt (x : CmdP) : List Int := if x.1 = 1 then cmps x.2.2.2.2 else if x.1 = 3 ∨ x.1 = 4 then [x.2.2.1] else []
def tgL (l : List CmdP) : List Int := l.flatMap tgt
theorem tgL_at {l : List CmdP} {x : CmdP} {j : Nat} (h : l[j]? = some x) : tgL (l.take (j + 1)) = tgL (l.take j) ++ tgt x := by
 rw [take_snoc h]; simp [tgL]
def nC (x : CmdP) : Nat := 1 + x.2.2.2.2.length
theorem tgL_len (l : List CmdP) : (tgL l).length ≤ sumN nC l := by
 induction l with
 | nil => simp [tgL, sumN]
 | cons x l ih =>
  have h1 : tgL (x :: l) = tgt x ++ tgL l := rfl
  have h2 : (tgt x).length ≤ nC x := by
   unfold tgt nC; split
   ·simp
   ·split <;> simp
  rw [h1, List.length_append]
  simp only [sumN]; omega
theorem w28 (l : List CmdP) (hl : l.length ≤ 2^36) (hs : sumN nC l ≤ 2^38) : Contract Try.prog false 28 [.ro] [.sl false 9 (l.map cmT)] [.sl true 1 ((asc (tgL l)).map iT)] [] := by
 refine mk_contract [] Try.func28 (c := Try.f28.body.get!) (by kernel_rfl) k28 r28 (of_decide_eq_true rfl) fun _ => ?_
 unfold c28; simp
 refine twp_forR l.length (fun j s => s.t 0 = .sl false 9 (l.map cmT) ∧ s.t 4 = .i .i64 j ∧ ((s.t 3 = .rf [(43, 0)] 0 (tgL (l.take j)).length ∧ s.H = lk [(1, []), (43, [.sl true 1 ((tgL (l.take j)).map iT)])]) ∨ (s.t 3 = .rf [(54, 0)] 0 (tgL (l.take j)).length ∧ s.H = lk [(1, []), (43, [.junk]), (54, [.sl true 1 ((tgL (l.take j)).map iT)])]) ∨ (s.t 3 = .rf [(43, 0)] 0 (tgL (l.take j)).length ∧ s.H = lk [(1, []), (43, [.sl true 1 ((tgL (l.take j)).map iT)]), (54, [.junk])]))) [42, 53] [(8, 43)] (by simp) (by simp) ?_ ?_
 ·simp [tgL]
 ·rintro j s hj ⟨q0, q4, ⟨q3, qH⟩ | ⟨q3, qH⟩ | ⟨q3, qH⟩⟩
  all_goals
   rw [nf_of qH]
   simp [q0, q3, q4]
   refine ⟨fun hlt => ?_, fun hge => ?_⟩
   ·have hw : IntKind.i64.wrap (j + 1) = j + 1 := wrap_id (by omega) (by omega)
    obtain ⟨x, hx⟩ := get_some hlt
    have hat := tgL_at hx
    have hlen := tgL_len (l.take (j + 1))
    have hlen2 := sumN_take nC l (j + 1)
    rw [hat, List.length_append] at hlen
    simp [hx, q0, q3, q4]
    by_cases h1 : x.1 = 1
    ·have ht : tgt x = cmps x.2.2.2.2 := by unfold tgt; rw [if_pos h1]
     rw [ht] at hat hlen
     simp at hlen
     simp [h1]
     refine twp_for x.2.2.2.2.length (fun i s => s.t 0 = .sl false 9 (l.map cmT) ∧ s.t 4 = .i .i64 j ∧ s.t 5 = .i .i64 i ∧ ((s.t 3 = .rf [(43, 0)] 0 (tgL (l.take j) ++ cmps (x.2.2.2.2.take i)).length ∧ s.H = lk [(1, []), (43, [.sl true 1 ((tgL (l.take j) ++ cmps (x.2.2.2.2.take i)).map iT)])]) ∨ (s.t 3 = .rf [(54, 0)] 0 (tgL (l.take j) ++ cmps (x.2.2.2.2.take i)).length ∧ s.H = lk [(1, []), (43, [.junk]), (54, [.sl true 1 ((tgL (l.take j) ++ cmps (x.2.2.2.2.take i)).map iT)])]) ∨ (s.t 3 = .rf [(43, 0)] 0 (tgL (l.take j) ++ cmps (x.2.2.2.2.take i)).length ∧ s.H = lk [(1, []), (43, [.sl true 1 ((tgL (l.take j) ++ cmps (x.2.2.2.2.take i)).map iT)]), (54, [.junk])]))) [42, 53] (by simp) ?_ ?_
     ·simp [q0, q3, q4]
     ·rintro i s2 hi ⟨p0, p4, p5, ⟨p3, pH⟩ | ⟨p3, pH⟩ | ⟨p3, pH⟩⟩
      all_goals
       rw [nf_of pH]
       simp [hx, p0, p3, p4, p5]
       refine ⟨fun hlt2 => ?_, fun hge2 => ?_⟩
       ·have hwi : IntKind.i64.wrap ((i : Int) + 1) = i + 1 := wrap_id (by omega) (by omega)
        obtain ⟨c, hc⟩ := get_some hlt2
        have hci := cmps_at hc
        simp [hc, p0, p3, p4, p5, hwi, hci]
        refine ⟨by omega, hlt2, ?_⟩
        first | exact .inl (by omega) | exact .inr (by omega)
       ·obtain rfl : i = x.2.2.2.2.length := by omega
        rw [List.take_of_length_le (Nat.le_refl _)] at p3
        simp [p0, p3, p4, p5, hw, hat]
        exact hlt
    ·by_cases h34 : x.1 = 3 ∨ x.1 = 4
     ·have ht : tgt x = [x.2.2.1] := by unfold tgt; rw [if_neg h1, if_pos h34]
      rw [ht] at hat hlen
      simp at hlen
      rcases h34 with h3 | h4
      ·simp [h1, h3, hx, q0, q3, q4, hw, hat]
       exact ⟨by omega, hlt⟩
      ·simp [h1, h4, hx, q0, q3, q4, hw, hat]
       exact ⟨by omega, hlt⟩
     ·have h3 : ¬ x.1 = 3 := fun h => h34 (.inl h)
      have h4 : ¬ x.1 = 4 := fun h => h34 (.inr h)
      have ht : tgt x = [] := by unfold tgt; rw [if_neg h1, if_neg h34]
      rw [ht, List.append_nil] at hat
      simp [h1, h3, h4, hx, q0, q3, q4, hw, hat]
      exact hlt
   ·obtain rfl : j = l.length := by omega
    have hlen := tgL_len l
    have hC := w77 (tgL l) (by omega)
    rw [List.take_of_length_le (Nat.le_refl _)] at q3
    simp [q3]
    refine callW_ms [.ro] ?_
    simp
    refine callX_of hC (by simp) ?_
    simp
theorem w30 (l : List CmdP) (hl : l.length ≤ 2^36) (hs : sumN nC l ≤ 2^38) : Contract Try.prog false 30 [.ro] [.sl false 9 (l.map cmT)] [.sl true 1 ((asc (tgL l)).map iT)] [] := by
 refine mk_contract [] Try.func30 (c := Try.f30.body.get!) (by kernel_rfl) k30 r30 (of_decide_eq_true rfl) fun _ => ?_
 unfold c30; simp
 refine twp_forR l.length (fun j s => s.t 9 = .sl false 9 (l.map cmT) ∧ s.t 10 = .i .i64 l.length ∧ s.t 11 = .i .i64 j ∧ ((s.t 3 = .rf [(32, 0)] 0 (tgL (l.take j)).length ∧ s.H = lk [(1, []), (32, [.sl true 1 ((tgL (l.take j)).map iT)])]) ∨ (s.t 3 = .rf [(41, 0)] 0 (tgL (l.take j)).length ∧ s.H = lk [(1, []), (32, [.junk]), (41, [.sl true 1 ((tgL (l.take j)).map iT)])]) ∨ (s.t 3 = .rf [(32, 0)] 0 (tgL (l.take j)).length ∧ s.H = lk [(1, []), (32, [.sl true 1 ((tgL (l.take j)).map iT)]), (41, [.junk])]))) [7, 9, 31, 40] [(10, 32)] (by simp) (by simp) ?_ ?_
 ·simp [tgL]
 ·rintro j s hj ⟨q9, q10, q11, ⟨q3, qH⟩ | ⟨q3, qH⟩ | ⟨q3, qH⟩⟩
  all_goals
   rw [nf_of qH]
   simp [q3, q9, q10, q11]
   refine ⟨fun hlt => ?_, fun hge => ?_⟩
   ·have hw : IntKind.i64.wrap (j + 1) = j + 1 := wrap_id (by omega) (by omega)
    obtain ⟨x, hx⟩ := get_some hlt
    have hat := tgL_at hx
    have hlen := tgL_len (l.take (j + 1))
    have hlen2 := sumN_take nC l (j + 1)
    rw [hat, List.length_append] at hlen
    simp [hx, q3, q9, q10, q11]
    by_cases h1 : x.1 = 1
    ·have ht : tgt x = cmps x.2.2.2.2 := by unfold tgt; rw [if_pos h1]
     rw [ht] at hat hlen
     simp at hlen
     simp [h1, q3, q9, q10, q11]
     refine twp_for x.2.2.2.2.length (fun i s => s.t 9 = .sl false 9 (l.map cmT) ∧ s.t 10 = .i .i64 l.length ∧ s.t 11 = .i .i64 j ∧ s.t 5 = .pt [(7, 0)] 0 0 ∧ s.t 20 = .sl false 5 (x.2.2.2.2.map clT) ∧ s.t 21 = .i .i64 x.2.2.2.2.length ∧ s.t 22 = .i .i64 i ∧ ((s.t 3 = .rf [(32, 0)] 0 (tgL (l.take j) ++ cmps (x.2.2.2.2.take i)).length ∧ s.H = lk [(1, []), (32, [.sl true 1 ((tgL (l.take j) ++ cmps (x.2.2.2.2.take i)).map iT)]), (7, [.po true (cmT x)])]) ∨ (s.t 3 = .rf [(41, 0)] 0 (tgL (l.take j) ++ cmps (x.2.2.2.2.take i)).length ∧ s.H = lk [(1, []), (32, [.junk]), (41, [.sl true 1 ((tgL (l.take j) ++ cmps (x.2.2.2.2.take i)).map iT)]), (7, [.po true (cmT x)])]) ∨ (s.t 3 = .rf [(32, 0)] 0 (tgL (l.take j) ++ cmps (x.2.2.2.2.take i)).length ∧ s.H = lk [(1, []), (32, [.sl true 1 ((tgL (l.take j) ++ cmps (x.2.2.2.2.take i)).map iT)]), (41, [.junk]), (7, [.po true (cmT x)])]))) [9, 31] (by simp) ?_ ?_
     ·simp [q3, q9, q10, q11, h1]
     ·rintro i s2 hi ⟨p9, p10, p11, p5, p20, p21, p22, ⟨p3, pH⟩ | ⟨p3, pH⟩ | ⟨p3, pH⟩⟩
      all_goals
       rw [nf_of pH]
       simp [hx, p3, p5, p9, p10, p11, p20, p21, p22]
       refine ⟨fun hlt2 => ?_, fun hge2 => ?_⟩
       ·have hwi : IntKind.i64.wrap ((i : Int) + 1) = i + 1 := wrap_id (by omega) (by omega)
        obtain ⟨c, hc⟩ := get_some hlt2
        have hci := cmps_at hc
        simp [hc, p3, p5, p9, p10, p11, p20, p21, p22, hwi, hci, h1]
        refine ⟨by omega, hlt2, ?_⟩
        first | exact .inl (by omega) | exact .inr (by omega)
       ·obtain rfl : i = x.2.2.2.2.length := by omega
        rw [List.take_of_length_le (Nat.le_refl _)] at p3
        simp [p3, p5, p9, p10, p11, p20, p21, p22, hw, hat]
        exact hlt
    ·by_cases h34 : x.1 = 3 ∨ x.1 = 4
     ·have ht : tgt x = [x.2.2.1] := by unfold tgt; rw [if_neg h1, if_pos h34]
      rw [ht] at hat hlen
      simp at hlen
      rcases h34 with h3 | h4
      ·simp [h1, h3, hx, q3, q9, q10, q11, hw, hat]
       exact ⟨by omega, hlt⟩
      ·simp [h1, h4, hx, q3, q9, q10, q11, hw, hat]
       exact ⟨by omega, hlt⟩
     ·have h3 : ¬ x.1 = 3 := fun h => h34 (.inl h)
      have h4 : ¬ x.1 = 4 := fun h => h34 (.inr h)
      have ht : tgt x = [] := by unfold tgt; rw [if_neg h1, if_neg h34]
      rw [ht, List.append_nil] at hat
      simp [h1, h3, h4, hx, q3, q9, q10, q11, hw, hat]
      exact hlt
   ·obtain rfl : j = l.length := by omega
    have hlen := tgL_len l
    have hC := w78 (tgL l) (by omega)
    rw [List.take_of_length_le (Nat.le_refl _)] at q3
    simp [q3]
    refine callW_ms [.own] ?_
    simp
    refine callX_of hC (by simp) ?_
    simp
end Go.Proofs.YtmedelmfkciblaaT


namespace Go.Proofs.YtmedelmfkciblaaT
set_option linter.unusedVariables false
set_option linter.unusedSimpArgs false
open Go
def c40 : TCode := (.seq (.ops [⟨(some 4), 6, .mv (.c (.b false)), none, []⟩])
 (.seq (.seq (.ops [⟨(some 5), 7, .mv (.c (.i .i64 0)), none, []⟩])
 (.block 0 (.loop (.seq (.seq (.ops [⟨(some 6), 8, .mv (.t 5), none, []⟩, ⟨(some 7), 9, .mv (.t 0), none, []⟩, ⟨(some 8), 10, .len false (.t 7), none, []⟩, ⟨(some 9), 11, .bin .lss (.t 6) (.t 8), none, []⟩])
 (.cond (.t 9)
 .skip
 (.exit 0)))
 (.seq (.block 1 (.seq (.ops [⟨(some 12), 14, .mv (.t 0), none, []⟩, ⟨(some 13), 15, .mv (.t 5), none, []⟩, ⟨(some 14), 16, .iaddr 1 (.t 12) (.t 13), none, []⟩, ⟨(some 15), 17, .load false 1 (.t 14), none, []⟩, ⟨(some 16), 18, .mv (.t 1), none, []⟩, ⟨(some 17), 19, .bin .eql (.t 15) (.t 16), none, []⟩])
 (.cond (.t 17)
 (.seq (.ops [⟨(some 4), 6, .mv (.c (.b true)), none, []⟩])
 .ret)
 .skip)))
 (.ops [⟨(some 10), 12, .mv (.t 5), none, []⟩, ⟨(some 11), 13, .bin .add (.t 10) (.c (.i .i64 1)), none, []⟩, ⟨(some 5), 7, .mv (.t 11), none, []⟩]))))))
 (.seq (.ops [⟨(some 4), 6, .mv (.c (.b false)), none, []⟩])
 .ret)))
theorem k40 : compCode Try.prog Try.f40.ntmps Try.f40.body.get! = some c40 := by kernel_rfl
theorem r40 : resTmps Try.prog Try.f40.results.toList = some [.tmp 4] := by kernel_rfl
def c24 : TCode := (.seq (.ops [⟨(some 4), 6, .mv (.c (.b false)), none, []⟩])
 (.seq (.seq (.ops [⟨(some 6), 8, .mv (.t 0), none, []⟩, ⟨(some 7), 9, .len false (.t 6), none, []⟩, ⟨(some 8), 10, .mv (.t 1), none, []⟩, ⟨(some 9), 11, .len false (.t 8), none, []⟩, ⟨(some 10), 12, .bin .neq (.t 7) (.t 9), none, []⟩])
 (.cond (.t 10)
 (.seq (.ops [⟨(some 4), 6, .mv (.c (.b false)), none, []⟩])
 .ret)
 .skip))
 (.seq (.seq (.ops [⟨(some 5), 7, .mv (.c (.i .i64 0)), none, []⟩])
 (.block 0 (.loop (.seq (.seq (.ops [⟨(some 11), 13, .mv (.t 5), none, []⟩, ⟨(some 12), 14, .mv (.t 0), none, []⟩, ⟨(some 13), 15, .len false (.t 12), none, []⟩, ⟨(some 14), 16, .bin .lss (.t 11) (.t 13), none, []⟩])
 (.cond (.t 14)
 .skip
 (.exit 0)))
 (.seq (.block 1 (.seq (.draw [⟨(some 17), 19, .mv (.t 0), none, []⟩, ⟨(some 18), 20, .mv (.t 5), none, []⟩, ⟨(some 19), 21, .iaddr 1 (.t 17) (.t 18), none, []⟩, ⟨(some 20), 22, .load false 1 (.t 19), none, []⟩, ⟨(some 21), 23, .mv (.t 1), none, []⟩, ⟨(some 22), 24, .mv (.t 5), none, []⟩, ⟨(some 23), 25, .iaddr 1 (.t 21) (.t 22), none, []⟩, ⟨(some 24), 26, .load false 1 (.t 23), none, []⟩, ⟨(some 25), 27, .bin .neq (.t 20) (.t 24), none, []⟩])
 (.cond (.t 25)
 (.seq (.ops [⟨(some 4), 6, .mv (.c (.b false)), none, []⟩])
 .ret)
 .skip)))
 (.ops [⟨(some 15), 17, .mv (.t 5), none, []⟩, ⟨(some 16), 18, .bin .add (.t 15) (.c (.i .i64 1)), none, []⟩, ⟨(some 5), 7, .mv (.t 16), none, []⟩]))))))
 (.seq (.ops [⟨(some 4), 6, .mv (.c (.b true)), none, []⟩])
 .ret))))
theorem k24 : compCode Try.prog Try.f24.ntmps Try.f24.body.get! = some c24 := by kernel_rfl
theorem r24 : resTmps Try.prog Try.f24.results.toList = some [.tmp 4] := by kernel_rfl
def c6 : TCode := (.seq (.ops [⟨(some 2), 4, .mv (.c (.b false)), none, []⟩])
 (.seq (.seq (.ops [⟨(some 9), 11, .mv (.t 0), none, []⟩, ⟨(some 10), 12, .call 20 [((.t 9), 0)], none, []⟩])
 (.cond (.t 10)
 (.seq (.ops [⟨(some 2), 4, .mv (.c (.b true)), none, []⟩])
 .ret)
 .skip))
 (.seq (.ops [⟨(some 11), 13, .mv (.t 0), none, []⟩, ⟨(some 12), 14, .call 36 [((.t 11), 0)], none, []⟩, ⟨(some 3), 5, .mv (.t 12), none, []⟩])
 (.seq (.ops [⟨(some 13), 15, .bslice 1 1 [(.i .u8 0)] [(0, (.c (.i .u8 7)))], none, []⟩, ⟨(some 14), 16, .mv (.t 0), none, []⟩, ⟨(some 15), 17, .app 1 1 (.t 13) (.t 14), none, []⟩, ⟨(some 16), 18, .call 37 [((.t 15), 0)], none, []⟩, ⟨(some 4), 6, .mv (.t 16), none, []⟩])
 (.seq (.ops [⟨(some 17), 19, .bslice 9 0 [(.i .i64 0), (.i .i64 0), (.i .i64 0), (.i .i64 0), (.i .i64 0), (.i .i64 0), (.f 0), (.f 0), (.sl true 5 [])] [], none, []⟩, ⟨(some 18), 20, .mv (.t 3), none, []⟩, ⟨(some 19), 21, .app 9 88 (.t 17) (.t 18), none, []⟩, ⟨(some 20), 22, .mv (.t 4), none, []⟩, ⟨(some 21), 23, .app 9 88 (.t 19) (.t 20), none, []⟩, ⟨(some 5), 7, .mv (.t 21), none, []⟩])
 (.seq (.ops [⟨(some 22), 24, .mv (.t 5), none, []⟩, ⟨(some 23), 25, .call 30 [((.t 22), 0)], none, []⟩, ⟨(some 6), 8, .mv (.t 23), none, []⟩])
 (.seq (.seq (.ops [⟨(some 24), 26, .mv (.t 6), none, []⟩, ⟨(some 25), 27, .mv (.t 5), none, []⟩, ⟨(some 26), 28, .call 28 [((.t 25), 0)], none, []⟩, ⟨(some 27), 29, .call 24 [((.t 24), 0), ((.t 26), 0)], none, []⟩, ⟨(some 28), 30, .un .not (.t 27), none, []⟩, ⟨(some 29), 31, .mv (.t 28), none, []⟩, ⟨(some 30), 32, .mv (.t 5), (some (29, false)), []⟩, ⟨(some 31), 33, .call 38 [((.t 30), 0)], (some (29, false)), []⟩, ⟨(some 32), 34, .mv (.t 3), (some (29, false)), []⟩, ⟨(some 33), 35, .call 39 [((.t 32), 0)], (some (29, false)), []⟩, ⟨(some 34), 36, .mv (.t 4), (some (29, false)), []⟩, ⟨(some 35), 37, .call 39 [((.t 34), 0)], (some (29, false)), []⟩, ⟨(some 36), 38, .bin .add (.t 33) (.t 35), (some (29, false)), []⟩, ⟨(some 37), 39, .bin .neq (.t 31) (.t 36), (some (29, false)), []⟩, ⟨(some 38), 40, .pick (.t 29) (.c (.b true)) (.t 37), none, []⟩])
 (.cond (.t 38)
 (.seq (.ops [⟨(some 2), 4, .mv (.c (.b false)), none, []⟩])
 .ret)
 .skip))
 (.seq (.ops [⟨(some 39), 41, .mv (.t 3), none, []⟩, ⟨(some 40), 42, .call 30 [((.t 39), 0)], none, []⟩, ⟨(some 7), 9, .mv (.t 40), none, []⟩])
 (.seq (.seq (.ops [⟨(some 8), 10, .mv (.c (.i .i64 0)), none, []⟩])
 (.block 0 (.loop (.seq (.seq (.ops [⟨(some 41), 43, .mv (.t 8), none, []⟩, ⟨(some 42), 44, .mv (.t 7), none, []⟩, ⟨(some 43), 45, .len false (.t 42), none, []⟩, ⟨(some 44), 46, .bin .lss (.t 41) (.t 43), none, []⟩])
 (.cond (.t 44)
 .skip
 (.exit 0)))
 (.seq (.block 1 (.seq (.ops [⟨(some 47), 49, .mv (.t 6), none, []⟩, ⟨(some 48), 50, .mv (.t 7), none, []⟩, ⟨(some 49), 51, .mv (.t 8), none, []⟩, ⟨(some 50), 52, .iaddr 1 (.t 48) (.t 49), none, []⟩, ⟨(some 51), 53, .load false 1 (.t 50), none, []⟩, ⟨(some 52), 54, .call 40 [((.t 47), 0), ((.t 51), 0)], none, []⟩, ⟨(some 53), 55, .un .not (.t 52), none, []⟩])
 (.cond (.t 53)
 (.seq (.ops [⟨(some 2), 4, .mv (.c (.b false)), none, []⟩])
 .ret)
 .skip)))
 (.ops [⟨(some 45), 47, .mv (.t 8), none, []⟩, ⟨(some 46), 48, .bin .add (.t 45) (.c (.i .i64 1)), none, []⟩, ⟨(some 8), 10, .mv (.t 46), none, []⟩]))))))
 (.seq (.ops [⟨(some 2), 4, .mv (.c (.b true)), none, []⟩])
 .ret))))))))))
theorem k6 : compCode Try.prog Try.f6.ntmps Try.f6.body.get! = some c6 := by kernel_rfl
theorem r6 : resTmps Try.prog Try.f6.results.toList = some [.tmp 2] := by kernel_rfl
@[simp] theorem srcT_cmT (H : Hp) (z : Nat) (l : List CmdP) : srcT H (.sl false z (l.map cmT)) = some (z, l.map cmT, H, []) := by simp only [srcT, noref_cmT, if_true]
theorem w24 (a : List Int) (ha : a.length ≤ 2^40) : Contract Try.prog false 24 [.ro, .ro] [.sl false 1 (a.map iT), .sl false 1 (a.map iT)] [.b true] [] := by
 refine mk_contract [] Try.func24 (c := Try.f24.body.get!) (by kernel_rfl) k24 r24 (of_decide_eq_true rfl) fun _ => ?_
 unfold c24; simp
 refine twp_for a.length (fun j s => s.t 0 = .sl false 1 (a.map iT) ∧ s.t 1 = .sl false 1 (a.map iT) ∧ s.t 5 = .i .i64 j ∧ s.H = lk [(1, [])]) [] (by simp) ?_ ?_
 ·simp
 ·rintro j s hj ⟨q0, q1, q5, qH⟩
  rw [nf_of qH]
  simp [q0, q1, q5]
  intro hlt
  have hw : IntKind.i64.wrap (j + 1) = j + 1 := wrap_id (by omega) (by omega)
  obtain ⟨x, hx⟩ := get_some hlt
  simp [hx, hw, q0, q1, q5]
  exact hlt
theorem w40 (l : List Int) (x : Int) (hl : l.length ≤ 2^40) (hx : x ∈ l) : Contract Try.prog false 40 [.ro, .ro] [.sl false 1 (l.map iT), .i .i64 x] [.b true] [] := by
 refine mk_contract [] Try.func40 (c := Try.f40.body.get!) (by kernel_rfl) k40 r40 (of_decide_eq_true rfl) fun _ => ?_
 unfold c40; simp
 refine twp_for l.length (fun j s => s.t 0 = .sl false 1 (l.map iT) ∧ s.t 1 = .i .i64 x ∧ s.t 5 = .i .i64 j ∧ ¬ x ∈ l.take j ∧ s.H = lk [(1, [])]) [] (by simp) ?_ ?_
 ·simp
 ·rintro j s hj ⟨q0, q1, q5, hn, qH⟩
  rw [nf_of qH]
  simp [q0, q1, q5]
  refine ⟨fun hlt => ?_, ?_⟩
  ·have hw : IntKind.i64.wrap (j + 1) = j + 1 := wrap_id (by omega) (by omega)
   obtain ⟨y, hy⟩ := get_some hlt
   have hat := take_snoc hy
   simp [hy, hw, q0, q1, q5]
   refine fun hxy => ⟨hlt, ?_⟩
   rw [hat]
   simp [hn]
   exact fun h => hxy h.symm
  ·rcases Nat.lt_or_ge j l.length with h | h
   ·exact h
   ·rw [List.take_of_length_le h] at hn
    exact absurd hx hn
theorem spwN_app (a b : List CmdP) : spwN (a ++ b) = spwN a + spwN b := by
 unfold spwN; rw [List.filter_append, List.length_append]
theorem tgL_app (a b : List CmdP) : tgL (a ++ b) = tgL a ++ tgL b := by unfold tgL; rw [List.flatMap_append]
theorem sumC_buf {a : BufP} (h : BufOk a) : sumN nC a ≤ 9 * a.length := by
 induction a with
 | nil => simp [sumN]
 | cons x a ih =>
  have h1 := ih fun y hy => h y (by simp [hy])
  have h2 := h x (by simp)
  simp only [sumN, nC, List.length_cons] at h1 ⊢
  omega
theorem BufOk.app {a b : BufP} (ha : BufOk a) (hb : BufOk b) : BufOk (a ++ b) := fun x hx => by
 rcases List.mem_append.1 hx with hx | hx
 ·exact ha x hx
 ·exact hb x hx
def restT : TCode := sndW (sndW (sndW (sndW c6)))
set_option maxRecDepth 100000 in
theorem c_restT : c6 = .seq (fstW c6) (.seq (fstW (sndW c6)) (.seq (fstW (sndW (sndW c6))) (.seq (fstW (sndW (sndW (sndW c6)))) restT))) := rfl
set_option maxRecDepth 100000 in
set_option maxHeartbeats 4000000 in
theorem tailT (a b : BufP) (ha : a.length ≤ 61 ∧ BufOk a) (hb : b.length ≤ 61 ∧ BufOk b) (s : St) (q3 : s.t 3 = .sl false 9 (a.map cmT)) (q4 : s.t 4 = .sl false 9 (b.map cmT)) (qH : s.H = lk []) : twp Try.prog restT (endB true 2) s := by
 have ha2 := sumC_buf ha.2
 have hb2 := sumC_buf (ha.2.app hb.2)
 rw [List.length_append] at hb2
 have hI := w30 (a ++ b) (by simp; omega) (by omega)
 have hS := w28 (a ++ b) (by simp; omega) (by omega)
 have hIa := w30 a (by omega) (by omega)
 have hP := w38 (a ++ b) (by simp; omega)
 have hPa := w39 a (by omega)
 have hPb := w39 b (by omega)
 have hla := spwN_le a
 have hlb := spwN_le b
 rw [spwN_app] at hP
 have hmem : ∀ y ∈ asc (tgL a), y ∈ asc (tgL (a ++ b)) := fun y hy => by
  rw [asc_mem] at hy ⊢; rw [tgL_app]; exact List.mem_append_left _ hy
 have hl1 : (asc (tgL (a ++ b))).length ≤ 2^20 := by have := asc_len (tgL (a ++ b)); have := tgL_len (a ++ b); omega
 have hl2 : (asc (tgL a)).length ≤ 2^20 := by have := asc_len (tgL a); have := tgL_len a; omega
 generalize asc (tgL (a ++ b)) = m at *
 generalize asc (tgL a) = x at *
 rw [List.map_append] at hI hS hP
 obtain ⟨A, hA⟩ : ∃ A, A = a.map cmT := ⟨_, rfl⟩
 unfold restT c6
 simp only [sndW]
 rw [nf_of qH]
 simp [q3, q4]
 refine ⟨by omega, by omega, ?_⟩
 refine callW_ms [.ro] ?_
 simp
 refine callX_of hI (by simp) ?_
 simp
 refine callW_ms [.ro] ?_
 simp
 refine callX_of hS (by simp) ?_
 simp
 refine callW_ms [.ro, .ro] ?_
 simp
 refine callX_of (w24 m (by omega)) (by simp) ?_
 simp [q3, q4]
 refine callW_ms [.ro] ?_
 simp [q3, q4]
 refine callX_of hP (by simp) ?_
 simp [q3, q4]
 refine callW_ms [.ro] ?_
 simp [q3, q4]
 refine callX_of hPa (by simp) ?_
 simp [q3, q4]
 refine callW_ms [.ro] ?_
 simp [q3, q4]
 refine callX_of hPb (by simp) ?_
 have hw : IntKind.i64.wrap ((spwN a : Int) + spwN b) = spwN a + spwN b := wrap_id (by omega) (by omega)
 simp [hw]
 refine callW_ms [.ro] ?_
 simp [q3, q4]
 refine callX_of hIa (by simp) ?_
 simp
 refine twp_for x.length (fun j s => s.t 6 = .rf [(25, 0)] 0 m.length ∧ s.t 7 = .rf [(42, 0)] 0 x.length ∧ s.t 8 = .i .i64 j ∧ s.H = lk [(25, [.sl true 1 (m.map iT)]), (42, [.sl true 1 (x.map iT)])]) [19, 21, 23, 28] (by simp) ?_ ?_
 ·simp
 ·rintro j s hj ⟨q6, q7, q8, qH⟩
  rw [nf_of qH]
  simp [q6, q7, q8]
  intro hlt
  have hw : IntKind.i64.wrap (j + 1) = j + 1 := wrap_id (by omega) (by omega)
  obtain ⟨y, hy⟩ := get_some hlt
  simp [hy, hw, q6, q7, q8]
  refine ⟨hlt, ?_⟩
  refine callW_ms [.ro, .ro] ?_
  simp
  refine callX_of (w40 m y (by omega) (hmem y (List.mem_of_getElem? hy))) (by simp) ?_
  simp [hw, q6, q7, q8]
  exact hlt
set_option maxRecDepth 100000 in
set_option maxHeartbeats 4000000 in
theorem w6 (bs : List Int) : Contract Try.prog false 6 [.ro] [.sl false 1 (bs.map uT)] [.b true] [] := by
 refine mk_contractF (n := 4) (t := 2) Try.func6 (c := Try.f6.body.get!) (by kernel_rfl) k6 r6 (of_decide_eq_true rfl) fun _ => ?_
 have tl := tailT
 rw [c_restT]
 generalize restT = R at *
 simp only [fstW, sndW, c6]
 simp
 by_cases hbig : 1048576 < bs.length
 ·refine callW_ms [.ro] ?_
  simp
  refine callX_of (w20 bs) (by simp) ?_
  simp [hbig]
 refine callW_ms [.ro] ?_
 simp
 refine callX_of (w20 bs) (by simp) ?_
 simp [hbig]
 obtain ⟨a, ⟨ha1, ha2⟩, hC⟩ := w36 bs (by omega)
 refine callW_ms [.ro] ?_
 simp
 refine callX_of hC (by simp) ?_
 simp
 obtain ⟨b, ⟨hb1, hb2⟩, hC2⟩ := w37 (7 :: bs) (by simp; omega)
 simp at hC2
 have htk : List.take (1 + bs.length) ([TV.i IntKind.u8 7] :: List.map uT bs) = [TV.i IntKind.u8 7] :: List.map uT bs := List.take_of_length_le (by simp; omega)
 have hfz : fzLL ([TV.i IntKind.u8 7] :: List.map uT bs) = [TV.i IntKind.u8 7] :: List.map uT bs := by
  have := fzLL_uT (7 :: bs)
  exact this
 refine ⟨by omega, ?_⟩
 refine callW_ms [.ro] ?_
 simp [htk, hfz]
 refine callX_of hC2 (by simp) ?_
 simp
 rw [twpF_z]
 refine tl a b ⟨ha1, ha2⟩ ⟨hb1, hb2⟩ _ ?_ ?_ ?_
 ·simp [St.frz]
  rw [frz_sl (z := 9) (es := a.map cmO) (by simp) (by simp)]
  simp
 ·simp [St.frz]
  rw [frz_sl (z := 9) (es := b.map cmO) (by simp) (by simp)]
  simp
 ·rfl
end Go.Proofs.YtmedelmfkciblaaT

