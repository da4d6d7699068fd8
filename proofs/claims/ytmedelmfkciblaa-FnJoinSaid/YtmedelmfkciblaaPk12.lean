/- Texts of this session's own, one behind the other: Ks0, Ks1, Kb, Kc, Kd, Ke, Ks3, Kf0. -/
import Derived.Test.YtmedelmfkciblaaPk11
import Derived.Test.YtmedelmfkciblaaProg
import Derived.Shelf.Sort.Plain
import Derived.Shelf.Slices.In.SortNone
import Derived.Shelf.Slices.CompactI
/- The library's contracts of slices.Sort and slices.Compact at []int, laid at this program (the seat of rd; the numbers are hers). -/
namespace Go.Proofs
open Go.Shelf
def Try.lays189_ren : Go.Shelf.Ren := ⟨fun | 189 => 135 | 125 => 170 | 257 => 169 | 128 => 210 | 129 => 211 | 294 => 201 | 295 => 202 | 296 => 203 | 297 => 204 | 298 => 205 | 299 => 206 | 216 => 207 | 300 => 208 | 301 => 209 | 328 => 226 | 329 => 227 | 330 => 228 | 331 => 229 | 332 => 230 | 215 => 231 | 343 => 236 | n => n, fun | 28 => 22 | 3 => 3 | 46 => 206 | 0 => 0 | 51 => 245 | 53 => 247 | 4 => 4 | 183 => 237 | 182 => 236 | 131 => 242 | 5 => 5 | 9 => 9 | 218 => 263 | 222 => 267 | 228 => 272 | 229 => 98 | n => n, fun | n => n⟩
theorem Try.lays189 : Go.Proofs.Lays.n189 Try.prog Try.lays189_ren := {
  mixed := by kernel_rfl
  f125 := Try.func170.trans (congrArg some (by kernel_rfl))
  f128 := Try.func210.trans (congrArg some (by kernel_rfl))
  f129 := Try.func211.trans (congrArg some (by kernel_rfl))
  f189 := Try.func135.trans (congrArg some (by kernel_rfl))
  f215 := Try.func231.trans (congrArg some (by kernel_rfl))
  f216 := Try.func207.trans (congrArg some (by kernel_rfl))
  f257 := Try.func169.trans (congrArg some (by kernel_rfl))
  f294 := Try.func201.trans (congrArg some (by kernel_rfl))
  f295 := Try.func202.trans (congrArg some (by kernel_rfl))
  f296 := Try.func203.trans (congrArg some (by kernel_rfl))
  f297 := Try.func204.trans (congrArg some (by kernel_rfl))
  f298 := Try.func205.trans (congrArg some (by kernel_rfl))
  f299 := Try.func206.trans (congrArg some (by kernel_rfl))
  f300 := Try.func208.trans (congrArg some (by kernel_rfl))
  f301 := Try.func209.trans (congrArg some (by kernel_rfl))
  f328 := Try.func226.trans (congrArg some (by kernel_rfl))
  f329 := Try.func227.trans (congrArg some (by kernel_rfl))
  f330 := Try.func228.trans (congrArg some (by kernel_rfl))
  f331 := Try.func229.trans (congrArg some (by kernel_rfl))
  f332 := Try.func230.trans (congrArg some (by kernel_rfl))
  f343 := Try.func236.trans (congrArg some (by kernel_rfl))
  t0 := Try.underlying0
  a0 := Try.isAgg0
  z0 := Try.sizeOf0
  v0 := Try.zeroValue0
  t3 := Try.underlying3
  a3 := Try.isAgg3
  z3 := Try.sizeOf3
  v3 := Try.zeroValue3
  t4 := Try.underlying4
  a4 := Try.isAgg4
  z4 := Try.sizeOf4
  v4 := Try.zeroValue4
  t5 := Try.underlying5
  a5 := Try.isAgg5
  z5 := Try.sizeOf5
  v5 := Try.zeroValue5
  t9 := Try.underlying9
  a9 := Try.isAgg9
  z9 := Try.sizeOf9
  v9 := Try.zeroValue9
  t28 := Try.underlying22
  a28 := Try.isAgg22
  z28 := Try.sizeOf22
  v28 := Try.zeroValue22
  t46 := Try.underlying206
  a46 := Try.isAgg206
  z46 := Try.sizeOf206
  v46 := Try.zeroValue206
  t51 := Try.underlying245
  a51 := Try.isAgg245
  z51 := Try.sizeOf245
  v51 := Try.zeroValue245
  t53 := Try.underlying247
  a53 := Try.isAgg247
  z53 := Try.sizeOf247
  v53 := Try.zeroValue247
  t131 := Try.underlying242
  a131 := Try.isAgg242
  z131 := Try.sizeOf242
  v131 := Try.zeroValue242
  t182 := Try.underlying236
  a182 := Try.isAgg236
  z182 := Try.sizeOf236
  v182 := Try.zeroValue236
  t183 := Try.underlying237
  a183 := Try.isAgg237
  z183 := Try.sizeOf237
  v183 := Try.zeroValue237
  t218 := Try.underlying263
  a218 := Try.isAgg263
  z218 := Try.sizeOf263
  v218 := Try.zeroValue263
  t222 := Try.underlying267
  a222 := Try.isAgg267
  z222 := Try.sizeOf267
  v222 := Try.zeroValue267
  t228 := Try.underlying272
  a228 := Try.isAgg272
  z228 := Try.sizeOf272
  v228 := Try.zeroValue272
  t229 := Try.underlying98
  a229 := Try.isAgg98
  z229 := Try.sizeOf98
  v229 := Try.zeroValue98 }
def Try.lays20_ren : Go.Shelf.Ren := ⟨fun | 20 => 136 | n => n, fun | 22 => 22 | 3 => 3 | 4 => 4 | 0 => 0 | n => n, fun | n => n⟩
theorem Try.lays20 : Go.Proofs.Lays2.n20 Try.prog Try.lays20_ren := {
  mixed := by kernel_rfl
  f20 := Try.func136.trans (congrArg some (by kernel_rfl))
  t0 := Try.underlying0
  a0 := Try.isAgg0
  z0 := Try.sizeOf0
  v0 := Try.zeroValue0
  t3 := Try.underlying3
  a3 := Try.isAgg3
  z3 := Try.sizeOf3
  v3 := Try.zeroValue3
  t4 := Try.underlying4
  a4 := Try.isAgg4
  z4 := Try.sizeOf4
  v4 := Try.zeroValue4
  t22 := Try.underlying22
  a22 := Try.isAgg22
  z22 := Try.sizeOf22
  v22 := Try.zeroValue22
  i3 := by kernel_rfl }
end Go.Proofs

/- slices.Sort, slices.Compact at []int: what they do, told by contents; numbers ascending. -/
namespace Go.Proofs.YtmedelmfkciblaaT
set_option linter.unusedVariables false
set_option linter.unusedSimpArgs false
open Go

/- impl.ascending -/
def c78 : TCode := (.seq (.ops [⟨(some 2), 4, .mv (.c (.sl true 1 [])), none, []⟩])
  (.seq (.ops [⟨(some 3), 5, .mv (.t 0), none, []⟩, ⟨(some 4), 6, .call 135 [((.t 3), 0)], none, []⟩])
  (.seq (.ops [⟨(some 5), 7, .mv (.t 0), none, []⟩, ⟨(some 6), 8, .call 136 [((.t 5), 0)], none, []⟩, ⟨(some 2), 4, .mv (.t 6), none, []⟩])
  .ret)))
theorem k78 : compCode Try.prog Try.f78.ntmps Try.f78.body.get! = some c78 := by kernel_rfl
theorem r78 : resTmps Try.prog Try.f78.results.toList = some [.tmp 2] := by kernel_rfl

theorem w135 (zs : List Int) (h : zs.length ≤ 2^40) : Contract Try.prog false 135 [.own] [.sl true 1 (zs.map iT)] [] [some (.sl true 1 ((srt zs).map iT))] :=
  contract_turn (List.length_mergeSort zs) (fun blk off cap w hH hb hc => Any.slices_Sort_int Try.lays189 blk off cap zs w hH hb (by omega))
    (fun h w => Any.slices_Sort_int_none Try.lays189 none 0 w)
theorem w136 (zs : List Int) (h : zs.length ≤ 2^40) : Contract Try.prog false 136 [.own] [.sl true 1 (zs.map iT)] [.sl true 1 ((Lib.compact zs).map iT)] [none] := by
  have hle := compact_le zs
  refine contract_cut (zs' := Lib.compact zs ++ List.replicate (zs.length - (Lib.compact zs).length) 0) (Lib.compact zs) (by simp; omega) ⟨(Lib.compact zs).length, by simp, by simp⟩ (fun blk off cap w hH hb hc => ?_) (fun h w => ?_)
  · refine (Any.slices_Compact_int Try.lays20 blk off cap zs w hH (by omega) hc).mono ?_
    rintro e w' ⟨h1, q, h2⟩
    exact ⟨h1, q, #[], by rw [h2, Go.Sort.grow_empty]⟩
  · exact Any.slices_Compact_int_empty Try.lays20 none 0 w

theorem w78 (l : List Int) (h : l.length ≤ 2^40) : Contract Try.prog false 78 [.own] [.sl true 1 (l.map iT)] [.sl true 1 ((asc l).map iT)] [none] := by
  refine mk_contract [none] Try.func78 (c := Try.f78.body.get!) (by kernel_rfl) k78 r78 (of_decide_eq_true rfl) fun _ => ?_
  unfold c78; simp
  refine callW_ms [.own] ?_
  simp
  refine callX_of (w135 l h) (by simp) ?_
  simp
  refine callW_ms [.own] ?_
  simp
  refine callX_of (w136 (srt l) (by rw [List.length_mergeSort]; exact h)) (by simp) ?_
  simp
  rfl
end Go.Proofs.YtmedelmfkciblaaT

/- Ents: whether they are right. -/
namespace Go.Proofs.YtmedelmfkciblaaT
set_option linter.unusedVariables false
set_option linter.unusedSimpArgs false
open Go

/- laws.szEnts -/
def c97 : TCode := (.seq (.ops [⟨(some 2), 4, .box 2 (.t 0), none, []⟩, ⟨(some 4), 6, .mv (.c (.i .i64 0)), none, []⟩])
  (.seq (.ops [⟨(some 5), 7, .faddr 0 1 (.t 2), none, []⟩, ⟨(some 6), 8, .load false 1 (.t 5), none, []⟩, ⟨(some 7), 9, .mv (.t 1), none, []⟩, ⟨(some 8), 10, .call 68 [((.t 6), 0), ((.t 7), 0)], none, []⟩, ⟨(some 1), 3, .mv (.t 8), none, []⟩])
  (.seq (.seq (.ops [⟨(some 9), 11, .mv (.t 1), none, []⟩, ⟨(some 10), 12, .bin .lss (.t 9) (.c (.i .i64 0)), none, []⟩])
  (.cond (.t 10)
  (.seq (.ops [⟨(some 4), 6, .mv (.c (.i .i64 (-1))), none, []⟩])
  .ret)
  .skip))
  (.seq (.ops [⟨(some 11), 13, .faddr 1 1 (.t 2), none, []⟩, ⟨(some 12), 14, .load false 1 (.t 11), none, []⟩, ⟨(some 13), 15, .mv (.t 1), none, []⟩, ⟨(some 14), 16, .call 68 [((.t 12), 0), ((.t 13), 0)], none, []⟩, ⟨(some 1), 3, .mv (.t 14), none, []⟩])
  (.seq (.seq (.ops [⟨(some 15), 17, .mv (.t 1), none, []⟩, ⟨(some 16), 18, .bin .lss (.t 15) (.c (.i .i64 0)), none, []⟩])
  (.cond (.t 16)
  (.seq (.ops [⟨(some 4), 6, .mv (.c (.i .i64 (-1))), none, []⟩])
  .ret)
  .skip))
  (.seq (.ops [⟨(some 17), 19, .mv (.t 1), none, []⟩, ⟨(some 4), 6, .mv (.t 17), none, []⟩])
  .ret))))))
theorem k97 : compCode Try.prog Try.f97.ntmps Try.f97.body.get! = some c97 := by kernel_rfl
theorem r97 : resTmps Try.prog Try.f97.results.toList = some [.tmp 4] := by kernel_rfl
/- laws.toEnts -/
def c101 : TCode := (.seq (.ops [⟨(some 1), 3, .box 2 (.t 0), none, []⟩, ⟨(some 2), 4, .box 2 (.c (.ag [(.sl true 1 []), (.sl true 1 [])])), none, []⟩])
  (.seq (.ops [⟨(some 3), 5, .box 2 (.c (.ag [(.sl true 1 []), (.sl true 1 [])])), none, []⟩])
  (.seq (.ops [⟨(some 4), 6, .faddr 0 1 (.t 1), none, []⟩, ⟨(some 5), 7, .load false 1 (.t 4), none, []⟩, ⟨(some 6), 8, .call 52 [((.t 5), 0)], none, []⟩, ⟨(some 7), 9, .faddr 0 1 (.t 3), none, []⟩, ⟨none, 1002004, .store 1 (.t 7) (.t 6), none, []⟩])
  (.seq (.ops [⟨(some 8), 10, .faddr 1 1 (.t 1), none, []⟩, ⟨(some 9), 11, .load false 1 (.t 8), none, []⟩, ⟨(some 10), 12, .call 52 [((.t 9), 0)], none, []⟩, ⟨(some 11), 13, .faddr 1 1 (.t 3), none, []⟩, ⟨none, 1003004, .store 1 (.t 11) (.t 10), none, []⟩])
  (.seq (.ops [⟨(some 12), 14, .load true 2 (.t 3), none, []⟩, ⟨none, 1004001, .store 2 (.t 2) (.t 12), none, []⟩])
  .ret)))))
theorem k101 : compCode Try.prog Try.f101.ntmps Try.f101.body.get! = some c101 := by kernel_rfl
theorem r101 : resTmps Try.prog Try.f101.results.toList = some [.cell 2 true 2] := by kernel_rfl
/- laws.eqEnts -/
def c108 : TCode := (.seq (.ops [⟨(some 2), 4, .box 2 (.t 0), none, []⟩, ⟨(some 3), 5, .box 2 (.t 1), none, []⟩, ⟨(some 4), 6, .mv (.c (.b false)), none, []⟩])
  (.seq (.seq (.ops [⟨(some 5), 7, .faddr 0 1 (.t 2), none, []⟩, ⟨(some 6), 8, .load false 1 (.t 5), none, []⟩, ⟨(some 7), 9, .faddr 0 1 (.t 3), none, []⟩, ⟨(some 8), 10, .load false 1 (.t 7), none, []⟩, ⟨(some 9), 11, .call 31 [((.t 6), 0), ((.t 8), 0)], none, []⟩, ⟨(some 10), 12, .un .not (.t 9), none, []⟩])
  (.cond (.t 10)
  (.seq (.ops [⟨(some 4), 6, .mv (.c (.b false)), none, []⟩])
  .ret)
  .skip))
  (.seq (.seq (.ops [⟨(some 11), 13, .faddr 1 1 (.t 2), none, []⟩, ⟨(some 12), 14, .load false 1 (.t 11), none, []⟩, ⟨(some 13), 15, .faddr 1 1 (.t 3), none, []⟩, ⟨(some 14), 16, .load false 1 (.t 13), none, []⟩, ⟨(some 15), 17, .call 31 [((.t 12), 0), ((.t 14), 0)], none, []⟩, ⟨(some 16), 18, .un .not (.t 15), none, []⟩])
  (.cond (.t 16)
  (.seq (.ops [⟨(some 4), 6, .mv (.c (.b false)), none, []⟩])
  .ret)
  .skip))
  (.seq (.ops [⟨(some 4), 6, .mv (.c (.b true)), none, []⟩])
  .ret))))
theorem k108 : compCode Try.prog Try.f108.ntmps Try.f108.body.get! = some c108 := by kernel_rfl
theorem r108 : resTmps Try.prog Try.f108.results.toList = some [.tmp 4] := by kernel_rfl
/- spec.EntsOk -/
def c234 : TCode := (.seq (.ops [⟨(some 1), 3, .box 2 (.t 0), none, []⟩, ⟨(some 2), 4, .mv (.c (.b false)), none, []⟩])
  (.seq (.ops [⟨(some 8), 10, .faddr 0 1 (.t 1), none, []⟩, ⟨(some 9), 11, .load false 1 (.t 8), none, []⟩, ⟨(some 10), 12, .len false (.t 9), none, []⟩, ⟨(some 3), 5, .mv (.t 10), none, []⟩])
  (.seq (.seq (.ops [⟨(some 11), 13, .mv (.t 3), none, []⟩, ⟨(some 12), 14, .bin .gtr (.t 11) (.c (.i .i64 2000)), none, []⟩, ⟨(some 13), 15, .mv (.t 12), none, []⟩, ⟨(some 14), 16, .faddr 1 1 (.t 1), (some (13, false)), []⟩, ⟨(some 15), 17, .load false 1 (.t 14), (some (13, false)), []⟩, ⟨(some 16), 18, .len false (.t 15), (some (13, false)), []⟩, ⟨(some 17), 19, .mv (.t 3), (some (13, false)), []⟩, ⟨(some 18), 20, .bin .gtr (.t 16) (.t 17), (some (13, false)), []⟩, ⟨(some 19), 21, .pick (.t 13) (.c (.b true)) (.t 18), none, []⟩])
  (.cond (.t 19)
  (.seq (.ops [⟨(some 2), 4, .mv (.c (.b false)), none, []⟩])
  .ret)
  .skip))
  (.seq (.seq (.ops [⟨(some 4), 6, .mv (.c (.i .i64 0)), none, []⟩])
  (.block 0 (.loop (.seq (.seq (.ops [⟨(some 20), 22, .mv (.t 4), none, []⟩, ⟨(some 21), 23, .mv (.t 3), none, []⟩, ⟨(some 22), 24, .bin .lss (.t 20) (.t 21), none, []⟩])
  (.cond (.t 22)
  .skip
  (.exit 0)))
  (.seq (.block 1 (.seq (.ops [⟨(some 25), 27, .faddr 0 1 (.t 1), none, []⟩, ⟨(some 26), 28, .load false 1 (.t 25), none, []⟩, ⟨(some 27), 29, .mv (.t 4), none, []⟩, ⟨(some 28), 30, .iaddr 1 (.t 26) (.t 27), none, []⟩, ⟨(some 29), 31, .load false 1 (.t 28), none, []⟩, ⟨(some 30), 32, .call 87 [((.t 29), 0), ((.c (.i .i64 0)), 0), ((.c (.i .i64 1000000)), 0)], none, []⟩, ⟨(some 31), 33, .un .not (.t 30), none, []⟩])
  (.cond (.t 31)
  (.seq (.ops [⟨(some 2), 4, .mv (.c (.b false)), none, []⟩])
  .ret)
  .skip)))
  (.ops [⟨(some 23), 25, .mv (.t 4), none, []⟩, ⟨(some 24), 26, .bin .add (.t 23) (.c (.i .i64 1)), none, []⟩, ⟨(some 4), 6, .mv (.t 24), none, []⟩]))))))
  (.seq (.ops [⟨(some 32), 34, .mv (.t 3), none, []⟩, ⟨(some 33), 35, .mkslice 1 1 [(.b false)] (.t 32) (.t 32), none, []⟩, ⟨(some 5), 7, .mv (.t 33), none, []⟩])
  (.seq (.seq (.ops [⟨(some 6), 8, .mv (.c (.i .i64 0)), none, []⟩])
  (.block 2 (.loop (.seq (.seq (.ops [⟨(some 34), 36, .mv (.t 6), none, []⟩, ⟨(some 35), 37, .faddr 1 1 (.t 1), none, []⟩, ⟨(some 36), 38, .load false 1 (.t 35), none, []⟩, ⟨(some 37), 39, .len false (.t 36), none, []⟩, ⟨(some 38), 40, .bin .lss (.t 34) (.t 37), none, []⟩])
  (.cond (.t 38)
  .skip
  (.exit 2)))
  (.seq (.block 3 (.seq (.ops [⟨(some 41), 43, .faddr 1 1 (.t 1), none, []⟩, ⟨(some 42), 44, .load false 1 (.t 41), none, []⟩, ⟨(some 43), 45, .mv (.t 6), none, []⟩, ⟨(some 44), 46, .iaddr 1 (.t 42) (.t 43), none, []⟩, ⟨(some 45), 47, .load false 1 (.t 44), none, []⟩, ⟨(some 7), 9, .mv (.t 45), none, []⟩])
  (.seq (.seq (.ops [⟨(some 46), 48, .mv (.t 7), none, []⟩, ⟨(some 47), 49, .mv (.t 3), none, []⟩, ⟨(some 48), 50, .bin .sub (.t 47) (.c (.i .i64 1)), none, []⟩, ⟨(some 49), 51, .call 87 [((.t 46), 0), ((.c (.i .i64 0)), 0), ((.t 48), 0)], none, []⟩, ⟨(some 50), 52, .un .not (.t 49), none, []⟩, ⟨(some 51), 53, .mv (.t 50), none, []⟩, ⟨(some 52), 54, .mv (.t 5), (some (51, false)), []⟩, ⟨(some 53), 55, .mv (.t 7), (some (51, false)), []⟩, ⟨(some 54), 56, .iaddr 1 (.t 52) (.t 53), (some (51, false)), []⟩, ⟨(some 55), 57, .load false 1 (.t 54), (some (51, false)), []⟩, ⟨(some 56), 58, .pick (.t 51) (.c (.b true)) (.t 55), none, []⟩])
  (.cond (.t 56)
  (.seq (.ops [⟨(some 2), 4, .mv (.c (.b false)), none, []⟩])
  .ret)
  .skip))
  (.ops [⟨(some 57), 59, .mv (.t 5), none, []⟩, ⟨(some 58), 60, .mv (.t 7), none, []⟩, ⟨(some 59), 61, .iaddr 1 (.t 57) (.t 58), none, []⟩, ⟨none, 1016003, .store 1 (.t 59) (.c (.b true)), none, []⟩]))))
  (.ops [⟨(some 39), 41, .mv (.t 6), none, []⟩, ⟨(some 40), 42, .bin .add (.t 39) (.c (.i .i64 1)), none, []⟩, ⟨(some 6), 8, .mv (.t 40), none, []⟩]))))))
  (.seq (.ops [⟨(some 2), 4, .mv (.c (.b true)), none, []⟩])
  .ret)))))))
theorem k234 : compCode Try.prog Try.f234.ntmps Try.f234.body.get! = some c234 := by kernel_rfl
theorem r234 : resTmps Try.prog Try.f234.results.toList = some [.tmp 2] := by kernel_rfl

/-- An Ents that one reads. -/
def entsR (g f : List Int) : TV := .ag [.sl false 1 (g.map iT), .sl false 1 (f.map iT)]
def entsO (g f : List Int) : TV := .ag [.sl true 1 (g.map iT), .sl true 1 (f.map iT)]

def szEntsF (g f : List Int) (n : Int) : Int := if szF n g.length < 0 then -1 else szF (szF n g.length) f.length
theorem w97 (g f : List Int) (n : Int) (hg : g.length < 2^63) (hf : f.length < 2^63) (hn : n < 2^62) (hn0 : 0 ≤ n) : Contract Try.prog false 97 [.ro, .ro] [entsR g f, .i .i64 n] [.i .i64 (szEntsF g f n)] [] := by
  refine mk_contract [] Try.func97 (c := Try.f97.body.get!) (by kernel_rfl) k97 r97 (of_decide_eq_true rfl) fun _ => ?_
  unfold c97 entsR; simp
  refine callW_ms [.ro, .ro] ?_
  simp
  refine callX_of (w68 g n hg hn hn0) (by simp) ?_
  simp
  refine ⟨fun h => ?_, fun h => ?_⟩
  · simp [szEntsF, h]
  · refine callW_ms [.ro, .ro] ?_
    simp
    have := szF_le n g.length (by omega) hn0
    refine callX_of (w68 f _ hf (by omega) h) (by simp) ?_
    simp
    refine ⟨fun h2 => ?_, fun h2 => ?_⟩
    · simp [szEntsF, szF_neg _ _ h2]; try (intro h3; omega)
    · simp [szEntsF]; try omega
theorem w101 (g f : List Int) (hg : g.length ≤ 2^40) (hf : f.length ≤ 2^40) : Contract Try.prog false 101 [.ro] [entsR g f] [entsO g f] [] := by
  refine mk_contract [] Try.func101 (c := Try.f101.body.get!) (by kernel_rfl) k101 r101 (of_decide_eq_true rfl) fun _ => ?_
  unfold c101 entsR entsO; simp
  refine callW_ms [.ro] ?_
  simp
  refine callX_of (w52 g hg) (by simp) ?_
  simp
  refine callW_ms [.ro] ?_
  simp
  refine callX_of (w52 f hf) (by simp) ?_
  simp
theorem w108 (g f g' f' : List Int) (hg : g.length ≤ 2^40) (hf : f.length ≤ 2^40) (hg' : g'.length ≤ 2^40) (hf' : f'.length ≤ 2^40) : Contract Try.prog false 108 [.ro, .ro] [entsR g f, entsR g' f'] [.b (decide (g = g' ∧ f = f'))] [] := by
  refine mk_contract [] Try.func108 (c := Try.f108.body.get!) (by kernel_rfl) k108 r108 (of_decide_eq_true rfl) fun _ => ?_
  unfold c108 entsR; simp
  refine callW_ms [.ro, .ro] ?_
  simp
  refine callX_of (w31 g g' hg hg') (by simp) ?_
  simp
  refine ⟨fun h => ?_, fun h => ?_⟩
  · refine callW_ms [.ro, .ro] ?_
    simp
    refine callX_of (w31 f f' hf hf') (by simp) ?_
    simp [h]
  · intro h2; exact absurd h2 h

def freeOk (n : Nat) (f : List Int) : Prop := (∀ x ∈ f, 0 ≤ x ∧ x < n) ∧ f.Nodup
instance (n : Nat) (f : List Int) : Decidable (freeOk n f) := by unfold freeOk; infer_instance
def freeL (n : Nat) (f : List Int) : List Bool := (List.range n).map fun (i : Nat) => decide ((i : Int) ∈ f)
@[simp] theorem freeL_len (n : Nat) (f : List Int) : (freeL n f).length = n := by simp [freeL]
theorem freeL_get {n : Nat} {f : List Int} {x : Int} (h0 : 0 ≤ x) (h1 : x < n) : (freeL n f)[x.toNat]? = some (decide (x ∈ f)) := by
  have h : x.toNat < n := by omega
  simp [freeL, h, Int.toNat_of_nonneg h0]
theorem freeL_set {n : Nat} {f : List Int} {x : Int} (h0 : 0 ≤ x) (h1 : x < n) : (freeL n f).set x.toNat true = freeL n (f ++ [x]) := by
  have h : x.toNat < n := by omega
  apply List.ext_getElem?
  intro i
  rw [List.getElem?_set]
  simp only [freeL, List.getElem?_map]
  by_cases hi : i < n
  · by_cases hx : x.toNat = i
    · subst hx; simp [h, Int.toNat_of_nonneg h0]
    · have : (i : Int) ≠ x := by omega
      simp [hx, hi, this]
  · have : ¬ x.toNat = i := by omega
    simp [hi, this]
@[simp] theorem freeL_nil (n : Nat) : freeL n [] = List.replicate n false := by
  apply List.ext_getElem?; intro i; simp [freeL, List.getElem?_replicate]; by_cases h : i < n <;> simp [h]
theorem freeOk_snoc {n : Nat} {f : List Int} {x : Int} : freeOk n (f ++ [x]) ↔ freeOk n f ∧ (0 ≤ x ∧ x < n) ∧ x ∉ f := by
  unfold freeOk
  simp only [List.mem_append, List.mem_singleton, List.nodup_append, List.nodup_cons]
  constructor
  · rintro ⟨h1, h2, _, h3⟩
    exact ⟨⟨fun y hy => h1 y (.inl hy), h2⟩, h1 x (.inr rfl), fun hx => h3 x hx x (by simp) rfl⟩
  · rintro ⟨⟨h1, h2⟩, h3, h4⟩
    refine ⟨fun y hy => ?_, h2, by simp, fun y hy z hz => ?_⟩
    · rcases hy with hy | rfl
      · exact h1 y hy
      · exact h3
    · subst hz; rintro rfl; exact h4 hy
theorem freeOk_take {n : Nat} {f : List Int} (h : freeOk n f) (j : Nat) : freeOk n (f.take j) :=
  ⟨fun x hx => h.1 x (List.mem_of_mem_take hx), h.2.sublist (List.take_sublist j f)⟩

def EntsOkP (g f : List Int) : Prop := (∀ x ∈ g, 0 ≤ x ∧ x ≤ 1000000) ∧ freeOk g.length f ∧ g.length ≤ 2000
instance (g f : List Int) : Decidable (EntsOkP g f) := by unfold EntsOkP; infer_instance

/-- What differs, out of a range, fits. -/
theorem len_le_of_nodup : ∀ (n : Nat) (f : List Int), (∀ x ∈ f, 0 ≤ x ∧ x < n) → f.Nodup → f.length ≤ n
  | 0, [], _, _ => by simp
  | 0, x :: f, h, _ => by have := h x (by simp); omega
  | n + 1, f, h, hn => by
    have h1 := len_le_of_nodup n (f.erase (n : Int)) (fun x hx => by
      have h2 := (hn.mem_erase_iff).1 hx
      have h3 := h x h2.2
      have : x ≠ n := h2.1
      omega) (hn.erase _)
    by_cases hm : (n : Int) ∈ f
    · rw [List.length_erase_of_mem hm] at h1; omega
    · rw [List.erase_of_not_mem hm] at h1; omega

theorem w234 (g f : List Int) (hg : g.length ≤ 2^40) (hf : f.length ≤ 2^40) : Contract Try.prog false 234 [.ro] [entsR g f] [.b (decide (EntsOkP g f))] [] := by
  refine mk_contract [] Try.func234 (c := Try.f234.body.get!) (by kernel_rfl) k234 r234 (of_decide_eq_true rfl) fun _ => ?_
  unfold c234 entsR; simp
  by_cases h : (2000 : Int) < g.length
  · have hE : ¬ EntsOkP g f := fun h2 => by have := h2.2.2; omega
    simp [h, hE]
  simp [h]
  refine ⟨fun h2 => ?_, fun h2 => ?_⟩
  · simp [EntsOkP]
    intro _ h3; have := len_le_of_nodup _ _ h3.1 h3.2; omega
  refine twp_for g.length (fun j s => s.t 1 = .pt [(3, 0)] 0 0 ∧ s.t 3 = .i .i64 g.length ∧ s.t 4 = .i .i64 j ∧ (∀ x ∈ g.take j, 0 ≤ x ∧ x ≤ 1000000) ∧
    s.H = lk [(1, []), (3, [.po true [.sl false 1 (g.map iT), .sl false 1 (f.map iT)]])]) [] (by simp) ?_ ?_
  · simp
  · rintro j s hj ⟨q1, q3, q4, hok, qH⟩
    rw [nf_of qH]
    simp [q1, q3, q4]
    refine ⟨fun hlt => ?_, fun hge => ?_⟩
    · obtain ⟨x, hx⟩ := get_some hlt
      have hw : IntKind.i64.wrap (j + 1) = j + 1 := wrap_id (by omega) (by omega)
      simp [hx]
      refine callW_ms [.ro, .ro, .ro] ?_
      simp
      by_cases hr : 0 ≤ x ∧ x ≤ 1000000
      · refine callX_of ((w87 _ _ _).t hr) (by simp) ?_
        simp [q1, q3, q4, hw, take_snoc hx]
        refine ⟨hlt, fun y hy => ?_⟩
        rcases hy with hy | rfl
        · exact hok y hy
        · exact hr
      · refine callX_of ((w87 _ _ _).f hr) (by simp) ?_
        simp
        intro h; exact absurd (h.1 x (List.mem_of_getElem? hx)) hr
    · obtain rfl : j = g.length := by omega
      simp at hok
      simp [q1, q3]
      refine ⟨by omega, ?_⟩
      refine twp_for f.length (fun j s => s.t 1 = .pt [(3, 0)] 0 0 ∧ s.t 3 = .i .i64 g.length ∧ s.t 5 = .rf [(35, 0)] 0 g.length ∧ s.t 6 = .i .i64 j ∧ freeOk g.length (f.take j) ∧
        s.H = lk [(1, []), (3, [.po true [.sl false 1 (g.map iT), .sl false 1 (f.map iT)]]), (35, [.sl true 1 ((freeL g.length (f.take j)).map bT)])]) [] (by simp) ?_ ?_
      · simp [q1, q3, freeOk]
      · rintro j s hj ⟨q1, q3, q5, q6, hok, qH⟩
        rw [nf_of qH]
        simp [q1, q3, q5, q6]
        refine ⟨fun hlt => ?_, fun hge => ?_⟩
        · obtain ⟨x, hx⟩ := get_some hlt
          have hw : IntKind.i64.wrap (j + 1) = j + 1 := wrap_id (by omega) (by omega)
          have hw2 : IntKind.i64.wrap (g.length - 1) = g.length - 1 := wrap_id (by omega) (by omega)
          have hsn := take_snoc hx
          simp [hx, hw2, q3]
          refine callW_ms [.ro, .ro, .ro] ?_
          simp
          by_cases hr : 0 ≤ x ∧ x ≤ (g.length : Int) - 1
          · refine callX_of ((w87 _ _ _).t hr) (by simp) ?_
            have hgt := freeL_get (n := g.length) (f := f.take j) (x := x) hr.1 (by omega)
            have hset : (List.map bT (freeL g.length (f.take j))).set x.toNat [.b true] = List.map bT (freeL g.length (f.take (j + 1))) := by
              rw [hsn, ← freeL_set hr.1 (by omega)]; simp
            have hno : x ∈ f.take j → ¬ freeOk g.length f := fun hx2 h => by
              have := freeOk_take h (j + 1); rw [hsn, freeOk_snoc] at this; exact this.2.2 hx2
            simp [q1, q3, q5, q6, hr.1, hgt, hw, hset]
            refine ⟨by omega, fun hx2 => by simp [hno hx2, EntsOkP], fun hx2 => ⟨by omega, hlt, ?_⟩⟩
            rw [hsn, freeOk_snoc]; exact ⟨hok, ⟨hr.1, by omega⟩, hx2⟩
          · refine callX_of ((w87 _ _ _).f hr) (by simp) ?_
            have hno : ¬ freeOk g.length f := fun h => by
              have := freeOk_take h (j + 1); rw [hsn, freeOk_snoc] at this; omega
            simp [hno, EntsOkP]
        · obtain rfl : j = f.length := by omega
          simp at hok
          exact ⟨by assumption, hok, by omega⟩
end Go.Proofs.YtmedelmfkciblaaT

/- The law FnExactEntsOk, walked. -/
namespace Go.Proofs.YtmedelmfkciblaaT
set_option linter.unusedVariables false
set_option linter.unusedSimpArgs false
open Go

theorem szEntsF_len {g f : List Int} {n : Int} (h : ¬ szEntsF g f n < 0) : g.length ≤ n ∧ f.length ≤ n := by
  unfold szEntsF at h
  split at h
  · omega
  · rename_i h1
    have h2 := szF_k n g.length (by omega)
    have h3 := szF_k _ f.length (by omega : 0 ≤ szF (szF n g.length) f.length)
    unfold szF at h1 h3
    split at h3 <;> omega

end Go.Proofs.YtmedelmfkciblaaT

/- A thing of an Ents: whether it is live. -/
namespace Go.Proofs.YtmedelmfkciblaaT
set_option linter.unusedVariables false
set_option linter.unusedSimpArgs false
open Go

/- laws.toEnt -/
def c60 : TCode := (.seq (.ops [⟨(some 1), 3, .box 2 (.t 0), none, []⟩, ⟨(some 2), 4, .box 2 (.c (.ag [(.i .i64 0), (.i .i64 0)])), none, []⟩])
  (.seq (.ops [⟨(some 3), 5, .box 2 (.c (.ag [(.i .i64 0), (.i .i64 0)])), none, []⟩])
  (.seq (.ops [⟨(some 4), 6, .faddr 0 1 (.t 1), none, []⟩, ⟨(some 5), 7, .load false 1 (.t 4), none, []⟩, ⟨(some 6), 8, .faddr 0 1 (.t 3), none, []⟩, ⟨none, 1002003, .store 1 (.t 6) (.t 5), none, []⟩])
  (.seq (.ops [⟨(some 7), 9, .faddr 1 1 (.t 1), none, []⟩, ⟨(some 8), 10, .load false 1 (.t 7), none, []⟩, ⟨(some 9), 11, .faddr 1 1 (.t 3), none, []⟩, ⟨none, 1003003, .store 1 (.t 9) (.t 8), none, []⟩])
  (.seq (.ops [⟨(some 10), 12, .load true 2 (.t 3), none, []⟩, ⟨none, 1004001, .store 2 (.t 2) (.t 10), none, []⟩])
  .ret)))))
theorem k60 : compCode Try.prog Try.f60.ntmps Try.f60.body.get! = some c60 := by kernel_rfl
theorem r60 : resTmps Try.prog Try.f60.results.toList = some [.cell 2 true 2] := by kernel_rfl
/- laws.eqEnt -/
def c94 : TCode := (.seq (.ops [⟨(some 2), 4, .box 2 (.t 0), none, []⟩, ⟨(some 3), 5, .box 2 (.t 1), none, []⟩, ⟨(some 4), 6, .mv (.c (.b false)), none, []⟩])
  (.seq (.seq (.ops [⟨(some 5), 7, .faddr 0 1 (.t 2), none, []⟩, ⟨(some 6), 8, .load false 1 (.t 5), none, []⟩, ⟨(some 7), 9, .faddr 0 1 (.t 3), none, []⟩, ⟨(some 8), 10, .load false 1 (.t 7), none, []⟩, ⟨(some 9), 11, .bin .neq (.t 6) (.t 8), none, []⟩])
  (.cond (.t 9)
  (.seq (.ops [⟨(some 4), 6, .mv (.c (.b false)), none, []⟩])
  .ret)
  .skip))
  (.seq (.seq (.ops [⟨(some 10), 12, .faddr 1 1 (.t 2), none, []⟩, ⟨(some 11), 13, .load false 1 (.t 10), none, []⟩, ⟨(some 12), 14, .faddr 1 1 (.t 3), none, []⟩, ⟨(some 13), 15, .load false 1 (.t 12), none, []⟩, ⟨(some 14), 16, .bin .neq (.t 11) (.t 13), none, []⟩])
  (.cond (.t 14)
  (.seq (.ops [⟨(some 4), 6, .mv (.c (.b false)), none, []⟩])
  .ret)
  .skip))
  (.seq (.ops [⟨(some 4), 6, .mv (.c (.b true)), none, []⟩])
  .ret))))
theorem k94 : compCode Try.prog Try.f94.ntmps Try.f94.body.get! = some c94 := by kernel_rfl
theorem r94 : resTmps Try.prog Try.f94.results.toList = some [.tmp 4] := by kernel_rfl
/- slices.Index[[]int,int] -/
def c161 : TCode := (.seq (.ops [⟨(some 4), 6, .mv (.c (.i .i64 0)), none, []⟩])
  (.seq (.seq (.ops [⟨(some 6), 8, .mv (.t 0), none, []⟩, ⟨(some 7), 9, .len false (.t 6), none, []⟩, ⟨(some 8), 10, .mv (.c (.i .i64 0)), none, []⟩])
  (.block 0 (.loop (.seq (.ops [⟨(some 9), 11, .bin .lss (.t 8) (.t 7), none, []⟩])
  (.seq (.cond (.t 9)
  .skip
  (.exit 0))
  (.seq (.block 1 (.seq (.ops [⟨(some 10), 12, .mv (.t 8), none, []⟩, ⟨(some 5), 7, .mv (.t 10), none, []⟩])
  (.seq (.ops [⟨(some 11), 13, .mv (.t 1), none, []⟩, ⟨(some 12), 14, .mv (.t 0), none, []⟩, ⟨(some 13), 15, .mv (.t 5), none, []⟩, ⟨(some 14), 16, .iaddr 1 (.t 12) (.t 13), none, []⟩, ⟨(some 15), 17, .load false 1 (.t 14), none, []⟩, ⟨(some 16), 18, .bin .eql (.t 11) (.t 15), none, []⟩])
  (.cond (.t 16)
  (.seq (.ops [⟨(some 17), 19, .mv (.t 5), none, []⟩, ⟨(some 4), 6, .mv (.t 17), none, []⟩])
  .ret)
  .skip))))
  (.ops [⟨(some 18), 20, .bin .add (.t 8) (.c (.i .i64 1)), none, []⟩, ⟨(some 8), 10, .mv (.t 18), none, []⟩])))))))
  (.seq (.ops [⟨(some 4), 6, .mv (.c (.i .i64 (-1))), none, []⟩])
  .ret)))
theorem k161 : compCode Try.prog Try.f161.ntmps Try.f161.body.get! = some c161 := by kernel_rfl
theorem r161 : resTmps Try.prog Try.f161.results.toList = some [.tmp 4] := by kernel_rfl
/- slices.Contains[[]int,int] -/
def c106 : TCode := (.seq (.ops [⟨(some 4), 6, .mv (.c (.b false)), none, []⟩])
  (.seq (.ops [⟨(some 5), 7, .mv (.t 0), none, []⟩, ⟨(some 6), 8, .mv (.t 1), none, []⟩, ⟨(some 7), 9, .call 161 [((.t 5), 0), ((.t 6), 0)], none, []⟩, ⟨(some 8), 10, .bin .geq (.t 7) (.c (.i .i64 0)), none, []⟩, ⟨(some 4), 6, .mv (.t 8), none, []⟩])
  .ret))
theorem k106 : compCode Try.prog Try.f106.ntmps Try.f106.body.get! = some c106 := by kernel_rfl
theorem r106 : resTmps Try.prog Try.f106.results.toList = some [.tmp 4] := by kernel_rfl
/- spec.l2Live -/
def c215 : TCode := (.seq (.ops [⟨(some 2), 4, .box 2 (.t 0), none, []⟩, ⟨(some 3), 5, .box 2 (.t 1), none, []⟩, ⟨(some 4), 6, .mv (.c (.b false)), none, []⟩])
  (.seq (.seq (.draw [⟨(some 6), 8, .faddr 0 1 (.t 3), none, []⟩, ⟨(some 7), 9, .load false 1 (.t 6), none, []⟩, ⟨(some 8), 10, .faddr 0 1 (.t 2), none, []⟩, ⟨(some 9), 11, .load false 1 (.t 8), none, []⟩, ⟨(some 10), 12, .len false (.t 9), none, []⟩, ⟨(some 11), 13, .bin .sub (.t 10) (.c (.i .i64 1)), none, []⟩, ⟨(some 12), 14, .call 87 [((.t 7), 0), ((.c (.i .i64 0)), 0), ((.t 11), 0)], none, []⟩, ⟨(some 13), 15, .un .not (.t 12), none, []⟩, ⟨(some 14), 16, .mv (.t 13), none, []⟩, ⟨(some 15), 17, .faddr 0 1 (.t 2), (some (14, false)), []⟩, ⟨(some 16), 18, .load false 1 (.t 15), (some (14, false)), []⟩, ⟨(some 17), 19, .faddr 0 1 (.t 3), (some (14, false)), []⟩, ⟨(some 18), 20, .load false 1 (.t 17), (some (14, false)), []⟩, ⟨(some 19), 21, .iaddr 1 (.t 16) (.t 18), (some (14, false)), []⟩, ⟨(some 20), 22, .load false 1 (.t 19), (some (14, false)), []⟩, ⟨(some 21), 23, .faddr 1 1 (.t 3), (some (14, false)), []⟩, ⟨(some 22), 24, .load false 1 (.t 21), (some (14, false)), []⟩, ⟨(some 23), 25, .bin .neq (.t 20) (.t 22), (some (14, false)), []⟩, ⟨(some 24), 26, .pick (.t 14) (.c (.b true)) (.t 23), none, []⟩])
  (.cond (.t 24)
  (.seq (.ops [⟨(some 4), 6, .mv (.c (.b false)), none, []⟩])
  .ret)
  .skip))
  (.seq (.seq (.ops [⟨(some 5), 7, .mv (.c (.i .i64 0)), none, []⟩])
  (.block 0 (.loop (.seq (.seq (.ops [⟨(some 25), 27, .mv (.t 5), none, []⟩, ⟨(some 26), 28, .faddr 1 1 (.t 2), none, []⟩, ⟨(some 27), 29, .load false 1 (.t 26), none, []⟩, ⟨(some 28), 30, .len false (.t 27), none, []⟩, ⟨(some 29), 31, .bin .lss (.t 25) (.t 28), none, []⟩])
  (.cond (.t 29)
  .skip
  (.exit 0)))
  (.seq (.block 1 (.seq (.draw [⟨(some 32), 34, .faddr 1 1 (.t 2), none, []⟩, ⟨(some 33), 35, .load false 1 (.t 32), none, []⟩, ⟨(some 34), 36, .mv (.t 5), none, []⟩, ⟨(some 35), 37, .iaddr 1 (.t 33) (.t 34), none, []⟩, ⟨(some 36), 38, .load false 1 (.t 35), none, []⟩, ⟨(some 37), 39, .faddr 0 1 (.t 3), none, []⟩, ⟨(some 38), 40, .load false 1 (.t 37), none, []⟩, ⟨(some 39), 41, .bin .eql (.t 36) (.t 38), none, []⟩])
  (.cond (.t 39)
  (.seq (.ops [⟨(some 4), 6, .mv (.c (.b false)), none, []⟩])
  .ret)
  .skip)))
  (.ops [⟨(some 30), 32, .mv (.t 5), none, []⟩, ⟨(some 31), 33, .bin .add (.t 30) (.c (.i .i64 1)), none, []⟩, ⟨(some 5), 7, .mv (.t 31), none, []⟩]))))))
  (.seq (.ops [⟨(some 4), 6, .mv (.c (.b true)), none, []⟩])
  .ret))))
theorem k215 : compCode Try.prog Try.f215.ntmps Try.f215.body.get! = some c215 := by kernel_rfl
theorem r215 : resTmps Try.prog Try.f215.results.toList = some [.tmp 4] := by kernel_rfl

def entT (x y : Int) : TV := .ag [.i .i64 x, .i .i64 y]
theorem w60 (x y : Int) : Contract Try.prog false 60 [.ro] [entT x y] [entT x y] [] := by
  refine mk_contract [] Try.func60 (c := Try.f60.body.get!) (by kernel_rfl) k60 r60 (of_decide_eq_true rfl) fun _ => ?_
  unfold c60 entT; simp
theorem w94 (x y x' y' : Int) : Contract Try.prog false 94 [.ro, .ro] [entT x y, entT x' y'] [.b (decide (x = x' ∧ y = y'))] [] := by
  refine mk_contract [] Try.func94 (c := Try.f94.body.get!) (by kernel_rfl) k94 r94 (of_decide_eq_true rfl) fun _ => ?_
  unfold c94 entT; simp
  refine ⟨fun h => ⟨fun h2 => ⟨h, h2⟩, fun h2 _ => h2⟩, fun h h2 => absurd h2 h⟩

/-- The place of the first x, or -1. -/
def idxF (l : List Int) (x : Int) : Int := if x ∈ l then (l.idxOf x : Int) else -1
theorem idxF_at {l : List Int} {x : Int} {j : Nat} (h : l[j]? = some x) (hn : x ∉ l.take j) : idxF l x = j := by
  have hm := List.mem_of_getElem? h
  have hj := (List.getElem?_eq_some_iff.1 h).1
  have hl : l = l.take j ++ x :: l.drop (j + 1) := by
    have := (List.getElem?_eq_some_iff.1 h).2
    rw [← this, ← List.drop_eq_getElem_cons hj, List.take_append_drop]
  unfold idxF
  rw [if_pos hm]
  have : l.idxOf x = j := by
    rw [hl, List.idxOf_append, if_neg hn]
    simp [Nat.min_eq_left (Nat.le_of_lt hj)]
  rw [this]
theorem idxF_ge (l : List Int) (x : Int) : 0 ≤ idxF l x ↔ x ∈ l := by
  unfold idxF; split
  · rename_i h; exact ⟨fun _ => h, fun _ => by omega⟩
  · rename_i h; exact ⟨fun h2 => by omega, fun h2 => absurd h2 h⟩
theorem w161 (l : List Int) (x : Int) (hl : l.length ≤ 2^40) : Contract Try.prog false 161 [.ro, .ro] [.sl false 1 (l.map iT), .i .i64 x] [.i .i64 (idxF l x)] [] := by
  refine mk_contract [] Try.func161 (c := Try.f161.body.get!) (by kernel_rfl) k161 r161 (of_decide_eq_true rfl) fun _ => ?_
  unfold c161; simp
  refine twp_for l.length (fun j s => s.t 0 = .sl false 1 (l.map iT) ∧ s.t 1 = .i .i64 x ∧ s.t 7 = .i .i64 l.length ∧ s.t 8 = .i .i64 j ∧ x ∉ l.take j ∧ s.H = lk [(1, [])]) [] (by simp) ?_ ?_
  · simp
  · rintro j s hj ⟨q0, q1, q7, q8, hn, qH⟩
    rw [nf_of qH]
    simp [q0, q1, q7, q8]
    refine ⟨fun hlt => ?_, fun hge => ?_⟩
    · have hw : IntKind.i64.wrap (j + 1) = j + 1 := wrap_id (by omega) (by omega)
      obtain ⟨y, hy⟩ := get_some hlt
      simp [hy, hw, q0, q1, q7, q8]
      refine ⟨fun hxy => ?_, fun hxy => ⟨hlt, ?_⟩⟩
      · subst hxy; exact (idxF_at hy hn).symm
      · rw [take_snoc hy]; simp; exact ⟨hn, hxy⟩
    · obtain rfl : j = l.length := by omega
      rw [List.take_of_length_le (Nat.le_refl _)] at hn
      simp [idxF, hn]
theorem w106 (l : List Int) (x : Int) (hl : l.length ≤ 2^40) : Contract Try.prog false 106 [.ro, .ro] [.sl false 1 (l.map iT), .i .i64 x] [.b (decide (x ∈ l))] [] := by
  refine mk_contract [] Try.func106 (c := Try.f106.body.get!) (by kernel_rfl) k106 r106 (of_decide_eq_true rfl) fun _ => ?_
  unfold c106; simp
  refine callW_ms [.ro, .ro] ?_
  simp
  refine callX_of (w161 l x hl) (by simp) ?_
  simp [idxF_ge]

/-- Live: a place of its own, of the gen that stands there, not free. -/
def liveP (g f : List Int) (x y : Int) : Prop := (0 ≤ x ∧ x ≤ (g.length : Int) - 1) ∧ g[x.toNat]? = some y ∧ x ∉ f
instance (g f : List Int) (x y : Int) : Decidable (liveP g f x y) := by unfold liveP; infer_instance
theorem w215 (g f : List Int) (x y : Int) (hg : g.length ≤ 2^40) (hf : f.length ≤ 2^40) : Contract Try.prog false 215 [.ro, .ro] [entsR g f, entT x y] [.b (decide (liveP g f x y))] [] := by
  refine mk_contract [] Try.func215 (c := Try.f215.body.get!) (by kernel_rfl) k215 r215 (of_decide_eq_true rfl) fun _ => ?_
  have hw2 : IntKind.i64.wrap (g.length - 1) = g.length - 1 := wrap_id (by omega) (by omega)
  unfold c215 entT entsR; simp [hw2]
  refine callW_ms [.ro, .ro, .ro] ?_
  simp
  by_cases hr : 0 ≤ x ∧ x ≤ (g.length : Int) - 1
  · refine callX_of ((w87 _ _ _).t hr) (by simp) ?_
    obtain ⟨z, hz⟩ := get_some (l := g) (j := x.toNat) (by omega)
    by_cases hzy : z = y
    · subst hzy
      simp [hr.1, hz]
      refine twp_for f.length (fun j s => s.t 2 = .pt [(4, 0)] 0 0 ∧ s.t 3 = .pt [(5, 0)] 0 0 ∧ s.t 5 = .i .i64 j ∧ x ∉ f.take j ∧
        s.H = lk [(1, []), (4, [.po true [.sl false 1 (g.map iT), .sl false 1 (f.map iT)]]), (5, [.po true [.i .i64 x, .i .i64 z]])]) [] (by simp) ?_ ?_
      · simp
      · rintro j s hj ⟨q2, q3, q5, hn, qH⟩
        rw [nf_of qH]
        simp [q2, q3, q5]
        refine ⟨fun hlt => ?_, fun hge => ?_⟩
        · have hw : IntKind.i64.wrap (j + 1) = j + 1 := wrap_id (by omega) (by omega)
          obtain ⟨u, hu⟩ := get_some hlt
          simp [hu, hw, q2, q3, q5]
          refine ⟨fun hux => ?_, fun hux => ⟨hlt, ?_⟩⟩
          · subst hux
            intro h; exact h.2.2 (List.mem_of_getElem? hu)
          · rw [take_snoc hu]; simp; exact ⟨hn, fun h => hux h.symm⟩
        · obtain rfl : j = f.length := by omega
          rw [List.take_of_length_le (Nat.le_refl _)] at hn
          exact ⟨hr, hz, hn⟩
    · have : ¬ liveP g f x y := fun h => by have := h.2.1; rw [hz] at this; cases this; exact hzy rfl
      simp [hr.1, hz, hzy, this]
  · refine callX_of ((w87 _ _ _).f hr) (by simp) ?_
    have : ¬ liveP g f x y := fun h => hr h.1
    simp [this]

end Go.Proofs.YtmedelmfkciblaaT

/- EntGive: parts. -/
namespace Go.Proofs.YtmedelmfkciblaaT
set_option linter.unusedVariables false
set_option linter.unusedSimpArgs false
open Go

/- spec.l2Copy -/
def c214 : TCode := (.seq (.ops [⟨(some 1), 3, .box 2 (.t 0), none, []⟩, ⟨(some 2), 4, .box 2 (.c (.ag [(.sl true 1 []), (.sl true 1 [])])), none, []⟩])
  (.seq (.draw [⟨(some 3), 5, .bslice 1 0 [(.i .i64 0)] [], none, []⟩, ⟨(some 4), 6, .faddr 0 1 (.t 1), none, [0]⟩, ⟨(some 5), 7, .load false 1 (.t 4), none, [0]⟩, ⟨(some 6), 8, .app 1 8 (.t 3) (.t 5), none, []⟩, ⟨(some 7), 9, .bslice 1 0 [(.i .i64 0)] [], none, [0, 1, 2, 3]⟩, ⟨(some 8), 10, .faddr 1 1 (.t 1), none, [0, 3, 4]⟩, ⟨(some 9), 11, .load false 1 (.t 8), none, [0, 3, 4]⟩, ⟨(some 10), 12, .app 1 8 (.t 7) (.t 9), none, []⟩, ⟨(some 11), 13, .build [(.sl true 1 []), (.sl true 1 [])] [(0, 1, (.t 6)), (1, 1, (.t 10))], none, []⟩, ⟨none, 1001009, .store 2 (.t 2) (.t 11), none, []⟩])
  .ret))
theorem k214 : compCode Try.prog Try.f214.ntmps Try.f214.body.get! = some c214 := by kernel_rfl
theorem r214 : resTmps Try.prog Try.f214.results.toList = some [.cell 2 true 2] := by kernel_rfl
/- spec.l2Give -/
def c221 : TCode := (.seq (.ops [⟨(some 2), 4, .box 2 (.t 0), none, []⟩, ⟨(some 3), 5, .box 2 (.t 1), none, []⟩, ⟨(some 4), 6, .box 2 (.c (.ag [(.sl true 1 []), (.sl true 1 [])])), none, []⟩])
  (.seq (.ops [⟨(some 5), 7, .faddr 0 1 (.t 2), none, []⟩, ⟨(some 6), 8, .load false 1 (.t 5), none, []⟩, ⟨(some 7), 9, .faddr 0 1 (.t 3), none, []⟩, ⟨(some 8), 10, .load false 1 (.t 7), none, []⟩, ⟨(some 9), 11, .faddr 1 1 (.t 3), none, []⟩, ⟨(some 10), 12, .load false 1 (.t 9), none, []⟩, ⟨(some 11), 13, .bin .add (.t 10) (.c (.i .i64 1)), none, []⟩, ⟨(some 12), 14, .iaddr 1 (.t 6) (.t 8), none, []⟩, ⟨none, 1001008, .store 1 (.t 12) (.t 11), none, []⟩])
  (.seq (.seq (.ops [⟨(some 13), 15, .faddr 1 1 (.t 3), none, []⟩, ⟨(some 14), 16, .load false 1 (.t 13), none, []⟩, ⟨(some 15), 17, .bin .geq (.t 14) (.c (.i .i64 1000000)), none, []⟩])
  (.cond (.t 15)
  (.ops [⟨(some 16), 18, .faddr 0 1 (.t 2), none, []⟩, ⟨(some 17), 19, .load false 1 (.t 16), none, []⟩, ⟨(some 18), 20, .faddr 0 1 (.t 3), none, []⟩, ⟨(some 19), 21, .load false 1 (.t 18), none, []⟩, ⟨(some 20), 22, .iaddr 1 (.t 17) (.t 19), none, []⟩, ⟨none, 1003005, .store 1 (.t 20) (.c (.i .i64 0)), none, []⟩])
  .skip))
  (.seq (.ops [⟨(some 21), 23, .faddr 1 1 (.t 2), none, []⟩, ⟨(some 22), 24, .load false 1 (.t 21), none, []⟩, ⟨(some 23), 25, .faddr 0 1 (.t 3), none, []⟩, ⟨(some 24), 26, .load false 1 (.t 23), none, []⟩, ⟨(some 25), 27, .bslice 1 1 [(.i .i64 0)] [(0, (.t 24))], none, []⟩, ⟨(some 26), 28, .app 1 8 (.t 22) (.t 25), none, []⟩, ⟨(some 27), 29, .faddr 1 1 (.t 2), none, []⟩, ⟨none, 1004007, .store 1 (.t 27) (.t 26), none, []⟩])
  (.seq (.ops [⟨(some 28), 30, .load true 2 (.t 2), none, []⟩, ⟨none, 1005001, .store 2 (.t 4) (.t 28), none, []⟩])
  .ret)))))
theorem k221 : compCode Try.prog Try.f221.ntmps Try.f221.body.get! = some c221 := by kernel_rfl
theorem r221 : resTmps Try.prog Try.f221.results.toList = some [.cell 4 true 2] := by kernel_rfl
/- laws.markEnts -/
def c111 : TCode := (.seq (.ops [⟨(some 2), 4, .box 2 (.t 0), none, []⟩, ⟨(some 4), 6, .mv (.c (.i .i64 0)), none, []⟩])
  (.seq (.ops [⟨(some 5), 7, .faddr 0 1 (.t 2), none, []⟩, ⟨(some 6), 8, .load false 1 (.t 5), none, []⟩, ⟨(some 7), 9, .mv (.t 1), none, []⟩, ⟨(some 8), 10, .call 34 [((.t 6), 0), ((.t 7), 0)], none, []⟩, ⟨(some 1), 3, .mv (.t 8), none, []⟩])
  (.seq (.ops [⟨(some 9), 11, .faddr 1 1 (.t 2), none, []⟩, ⟨(some 10), 12, .load false 1 (.t 9), none, []⟩, ⟨(some 11), 13, .mv (.t 1), none, []⟩, ⟨(some 12), 14, .call 34 [((.t 10), 0), ((.t 11), 0)], none, []⟩, ⟨(some 1), 3, .mv (.t 12), none, []⟩])
  (.seq (.ops [⟨(some 13), 15, .mv (.t 1), none, []⟩, ⟨(some 4), 6, .mv (.t 13), none, []⟩])
  .ret))))
theorem k111 : compCode Try.prog Try.f111.ntmps Try.f111.body.get! = some c111 := by kernel_rfl
theorem r111 : resTmps Try.prog Try.f111.results.toList = some [.tmp 4] := by kernel_rfl
/- laws.heldEnts -/
def c127 : TCode := (.seq (.ops [⟨(some 2), 4, .box 2 (.t 0), none, []⟩, ⟨(some 4), 6, .mv (.c (.i .i64 0)), none, []⟩])
  (.seq (.ops [⟨(some 5), 7, .faddr 0 1 (.t 2), none, []⟩, ⟨(some 6), 8, .load false 1 (.t 5), none, []⟩, ⟨(some 7), 9, .mv (.t 1), none, []⟩, ⟨(some 8), 10, .call 35 [((.t 6), 0), ((.t 7), 0)], none, []⟩, ⟨(some 1), 3, .mv (.t 8), none, []⟩])
  (.seq (.seq (.ops [⟨(some 9), 11, .mv (.t 1), none, []⟩, ⟨(some 10), 12, .bin .lss (.t 9) (.c (.i .i64 0)), none, []⟩])
  (.cond (.t 10)
  (.seq (.ops [⟨(some 4), 6, .mv (.c (.i .i64 (-1))), none, []⟩])
  .ret)
  .skip))
  (.seq (.ops [⟨(some 11), 13, .faddr 1 1 (.t 2), none, []⟩, ⟨(some 12), 14, .load false 1 (.t 11), none, []⟩, ⟨(some 13), 15, .mv (.t 1), none, []⟩, ⟨(some 14), 16, .call 35 [((.t 12), 0), ((.t 13), 0)], none, []⟩, ⟨(some 1), 3, .mv (.t 14), none, []⟩])
  (.seq (.seq (.ops [⟨(some 15), 17, .mv (.t 1), none, []⟩, ⟨(some 16), 18, .bin .lss (.t 15) (.c (.i .i64 0)), none, []⟩])
  (.cond (.t 16)
  (.seq (.ops [⟨(some 4), 6, .mv (.c (.i .i64 (-1))), none, []⟩])
  .ret)
  .skip))
  (.seq (.ops [⟨(some 17), 19, .mv (.t 1), none, []⟩, ⟨(some 4), 6, .mv (.t 17), none, []⟩])
  .ret))))))
theorem k127 : compCode Try.prog Try.f127.ntmps Try.f127.body.get! = some c127 := by kernel_rfl
theorem r127 : resTmps Try.prog Try.f127.results.toList = some [.tmp 4] := by kernel_rfl

theorem w214 (g f : List Int) (hg : g.length ≤ 2^40) (hf : f.length ≤ 2^40) : Contract Try.prog false 214 [.ro] [entsR g f] [entsO g f] [] := by
  refine mk_contract [] Try.func214 (c := Try.f214.body.get!) (by kernel_rfl) k214 r214 (of_decide_eq_true rfl) fun _ => ?_
  unfold c214 entsR entsO; simp
  omega
def giveG (g : List Int) (x y : Int) : List Int := g.set x.toNat (if 1000000 ≤ y then 0 else y + 1)
@[simp] theorem giveG_len (g : List Int) (x y : Int) : (giveG g x y).length = g.length := by simp [giveG]
theorem w221 (g f : List Int) (x y : Int) (hf : f.length ≤ 2^40) (hx0 : 0 ≤ x) (hxg : g[x.toNat]? = some y) (hy : 0 ≤ y ∧ y ≤ 1000000) : Contract Try.prog false 221 [.own, .ro] [entsO g f, entT x y] [entsO (giveG g x y) (f ++ [x])] [none, none] := by
  refine mk_contract [none, none] Try.func221 (c := Try.f221.body.get!) (by kernel_rfl) k221 r221 (of_decide_eq_true rfl) fun _ => ?_
  have hlt := (List.getElem?_eq_some_iff.1 hxg).1
  have hw : IntKind.i64.wrap (y + 1) = y + 1 := wrap_id (by omega) (by omega)
  have hs : ∀ e, ((g.map iT).set x.toNat e)[x.toNat]? = some e := fun e => by simp [hlt]
  unfold c221; unfold entsO entT; simp [hw, hx0, hxg, hs]
  refine ⟨by omega, fun hge => ?_, fun hlt2 => ?_⟩
  · simp [giveG, hge]; omega
  · simp [giveG, show ¬ 1000000 ≤ y by omega]; omega
theorem w111 (g f : List Int) (k : Int) (hg : g.length ≤ 2^30) (hf : f.length ≤ 2^30) (hk : 0 ≤ k) (hk2 : k ≤ 2^39) : Contract Try.prog false 111 [.own, .ro] [entsO g f, .i .i64 k] [.i .i64 (k + g.length + f.length)] [some (.sl true 1 ((cnt k g.length).map iT)), some (.sl true 1 ((cnt (k + g.length) f.length).map iT))] := by
  refine mk_contract [some [(4, 0), (0, 0)], some [(4, 0), (0, 1)]] Try.func111 (c := Try.f111.body.get!) (by kernel_rfl) k111 r111 (of_decide_eq_true rfl) fun _ => ?_
  unfold c111; unfold entsO; simp
  refine callW_ms [.own, .ro] ?_
  simp
  refine callX_of (w34 g k (by omega) (by omega) (by omega)) (by simp) ?_
  simp
  refine callW_ms [.own, .ro] ?_
  simp
  refine callX_of (w34 f _ (by omega) (by omega) (by omega)) (by simp) ?_
  simp
theorem W35 (n : Nat) (k : Int) (hl : n ≤ 2^40) (hk : 0 ≤ k) (hk2 : k ≤ 2^40) : Contract Try.prog false 35 [.ro, .ro] [.sl false 1 ((cnt k n).map iT), .i .i64 k] [.i .i64 (k + n)] [] := by
  simpa using w35 (cnt k n) k (by simpa using hl) hk hk2
theorem w127 (n m : Nat) (k : Int) (hg : n ≤ 2^30) (hf : m ≤ 2^30) (hk : 0 ≤ k) (hk2 : k ≤ 2^39) : Contract Try.prog false 127 [.ro, .ro] [entsR (cnt k n) (cnt (k + n) m), .i .i64 k] [.i .i64 (k + n + m)] [] := by
  refine mk_contract [] Try.func127 (c := Try.f127.body.get!) (by kernel_rfl) k127 r127 (of_decide_eq_true rfl) fun _ => ?_
  unfold c127; unfold entsR; simp
  refine callW_ms [.ro, .ro] ?_
  simp
  refine callX_of (W35 n k (by omega) (by omega) (by omega)) (by simp) ?_
  simp
  refine ⟨by omega, fun _ => ?_⟩
  refine callW_ms [.ro, .ro] ?_
  simp
  refine callX_of (W35 m _ (by omega) (by omega) (by omega)) (by simp) ?_
  simp
  omega
def giveP (g f : List Int) (x y : Int) : List Int × List Int × Int :=
  if EntsOkP g f then (if liveP g f x y then (giveG g x y, f ++ [x], 0) else (g, f, 2)) else (g, f, 1)
theorem giveP_len (g f : List Int) (x y : Int) : (giveP g f x y).1.length = g.length ∧ (giveP g f x y).2.1.length ≤ f.length + 1 := by
  unfold giveP; split
  · split <;> simp
  · simp
end Go.Proofs.YtmedelmfkciblaaT

/- Joins of effects. -/
namespace Go.Proofs.YtmedelmfkciblaaT
set_option linter.unusedVariables false
set_option linter.unusedSimpArgs false
open Go

/- spec.l10Union -/
def c69 : TCode := (.seq (.ops [⟨(some 4), 6, .mv (.c (.sl true 1 [])), none, []⟩])
  (.seq (.ops [⟨(some 5), 7, .bslice 1 0 [(.i .i64 0)] [], none, []⟩, ⟨(some 6), 8, .mv (.t 0), none, []⟩, ⟨(some 7), 9, .app 1 8 (.t 5) (.t 6), none, []⟩, ⟨(some 8), 10, .mv (.t 1), none, []⟩, ⟨(some 9), 11, .app 1 8 (.t 7) (.t 8), none, []⟩, ⟨(some 10), 12, .call 77 [((.t 9), 0)], none, []⟩, ⟨(some 4), 6, .mv (.t 10), none, []⟩])
  .ret))
theorem k69 : compCode Try.prog Try.f69.ntmps Try.f69.body.get! = some c69 := by kernel_rfl
theorem r69 : resTmps Try.prog Try.f69.results.toList = some [.tmp 4] := by kernel_rfl
/- impl.both -/
def c70 : TCode := (.seq (.ops [⟨(some 4), 6, .mv (.c (.sl true 1 [])), none, []⟩])
  (.seq (.ops [⟨(some 5), 7, .mv (.t 0), none, []⟩, ⟨(some 6), 8, .call 130 [((.t 5), 0)], none, []⟩, ⟨(some 7), 9, .mv (.t 1), none, []⟩, ⟨(some 8), 10, .app 1 8 (.t 6) (.t 7), none, []⟩, ⟨(some 9), 11, .call 78 [((.t 8), 0)], none, []⟩, ⟨(some 4), 6, .mv (.t 9), none, []⟩])
  .ret))
theorem k70 : compCode Try.prog Try.f70.ntmps Try.f70.body.get! = some c70 := by kernel_rfl
theorem r70 : resTmps Try.prog Try.f70.results.toList = some [.tmp 4] := by kernel_rfl
/- spec.EffJoin -/
def c14 : TCode := (.seq (.ops [⟨(some 2), 4, .box 10 (.t 0), none, []⟩, ⟨(some 3), 5, .box 10 (.t 1), none, []⟩, ⟨(some 4), 6, .box 10 (.c (.ag [(.sl true 1 []), (.sl true 1 []), (.sl true 1 []), (.sl true 1 []), (.sl true 1 []), (.sl true 1 []), (.sl true 1 []), (.sl true 1 []), (.b false), (.b false)])), none, []⟩])
  (.seq (.draw [⟨(some 5), 7, .faddr 0 1 (.t 2), none, []⟩, ⟨(some 6), 8, .load false 1 (.t 5), none, []⟩, ⟨(some 7), 9, .faddr 0 1 (.t 3), none, []⟩, ⟨(some 8), 10, .load false 1 (.t 7), none, []⟩, ⟨(some 9), 11, .call 69 [((.t 6), 0), ((.t 8), 0)], none, []⟩, ⟨(some 10), 12, .faddr 1 1 (.t 2), none, [4]⟩, ⟨(some 11), 13, .load false 1 (.t 10), none, [4]⟩, ⟨(some 12), 14, .faddr 1 1 (.t 3), none, [4]⟩, ⟨(some 13), 15, .load false 1 (.t 12), none, [4]⟩, ⟨(some 14), 16, .call 69 [((.t 11), 0), ((.t 13), 0)], none, []⟩, ⟨(some 15), 17, .faddr 2 1 (.t 2), none, [4, 9]⟩, ⟨(some 16), 18, .load false 1 (.t 15), none, [4, 9]⟩, ⟨(some 17), 19, .faddr 2 1 (.t 3), none, [4, 9]⟩, ⟨(some 18), 20, .load false 1 (.t 17), none, [4, 9]⟩, ⟨(some 19), 21, .call 69 [((.t 16), 0), ((.t 18), 0)], none, []⟩, ⟨(some 20), 22, .faddr 3 1 (.t 2), none, [4, 9, 14]⟩, ⟨(some 21), 23, .load false 1 (.t 20), none, [4, 9, 14]⟩, ⟨(some 22), 24, .faddr 3 1 (.t 3), none, [4, 9, 14]⟩, ⟨(some 23), 25, .load false 1 (.t 22), none, [4, 9, 14]⟩, ⟨(some 24), 26, .call 69 [((.t 21), 0), ((.t 23), 0)], none, []⟩, ⟨(some 25), 27, .faddr 4 1 (.t 2), none, [4, 9, 14, 19]⟩, ⟨(some 26), 28, .load false 1 (.t 25), none, [4, 9, 14, 19]⟩, ⟨(some 27), 29, .faddr 4 1 (.t 3), none, [4, 9, 14, 19]⟩, ⟨(some 28), 30, .load false 1 (.t 27), none, [4, 9, 14, 19]⟩, ⟨(some 29), 31, .call 69 [((.t 26), 0), ((.t 28), 0)], none, []⟩, ⟨(some 30), 32, .faddr 5 1 (.t 2), none, [4, 9, 14, 19, 24]⟩, ⟨(some 31), 33, .load false 1 (.t 30), none, [4, 9, 14, 19, 24]⟩, ⟨(some 32), 34, .faddr 5 1 (.t 3), none, [4, 9, 14, 19, 24]⟩, ⟨(some 33), 35, .load false 1 (.t 32), none, [4, 9, 14, 19, 24]⟩, ⟨(some 34), 36, .call 69 [((.t 31), 0), ((.t 33), 0)], none, []⟩, ⟨(some 35), 37, .faddr 6 1 (.t 2), none, [4, 9, 14, 19, 24, 29]⟩, ⟨(some 36), 38, .load false 1 (.t 35), none, [4, 9, 14, 19, 24, 29]⟩, ⟨(some 37), 39, .faddr 6 1 (.t 3), none, [4, 9, 14, 19, 24, 29]⟩, ⟨(some 38), 40, .load false 1 (.t 37), none, [4, 9, 14, 19, 24, 29]⟩, ⟨(some 39), 41, .call 69 [((.t 36), 0), ((.t 38), 0)], none, []⟩, ⟨(some 40), 42, .faddr 7 1 (.t 2), none, [4, 9, 14, 19, 24, 29, 34]⟩, ⟨(some 41), 43, .load false 1 (.t 40), none, [4, 9, 14, 19, 24, 29, 34]⟩, ⟨(some 42), 44, .faddr 7 1 (.t 3), none, [4, 9, 14, 19, 24, 29, 34]⟩, ⟨(some 43), 45, .load false 1 (.t 42), none, [4, 9, 14, 19, 24, 29, 34]⟩, ⟨(some 44), 46, .call 69 [((.t 41), 0), ((.t 43), 0)], none, []⟩, ⟨(some 45), 47, .faddr 8 1 (.t 2), none, [4, 9, 14, 19, 24, 29, 34, 39]⟩, ⟨(some 46), 48, .load false 1 (.t 45), none, [4, 9, 14, 19, 24, 29, 34, 39]⟩, ⟨(some 47), 49, .mv (.t 46), none, []⟩, ⟨(some 48), 50, .faddr 8 1 (.t 3), (some (47, false)), []⟩, ⟨(some 49), 51, .load false 1 (.t 48), (some (47, false)), []⟩, ⟨(some 50), 52, .pick (.t 47) (.c (.b true)) (.t 49), none, []⟩, ⟨(some 51), 53, .faddr 9 1 (.t 2), none, [4, 9, 14, 19, 24, 29, 34, 39]⟩, ⟨(some 52), 54, .load false 1 (.t 51), none, [4, 9, 14, 19, 24, 29, 34, 39]⟩, ⟨(some 53), 55, .mv (.t 52), none, []⟩, ⟨(some 54), 56, .faddr 9 1 (.t 3), (some (53, false)), []⟩, ⟨(some 55), 57, .load false 1 (.t 54), (some (53, false)), []⟩, ⟨(some 56), 58, .pick (.t 53) (.c (.b true)) (.t 55), none, []⟩, ⟨(some 57), 59, .build [(.sl true 1 []), (.sl true 1 []), (.sl true 1 []), (.sl true 1 []), (.sl true 1 []), (.sl true 1 []), (.sl true 1 []), (.sl true 1 []), (.b false), (.b false)] [(0, 1, (.t 9)), (1, 1, (.t 14)), (2, 1, (.t 19)), (3, 1, (.t 24)), (4, 1, (.t 29)), (5, 1, (.t 34)), (6, 1, (.t 39)), (7, 1, (.t 44)), (8, 1, (.t 50)), (9, 1, (.t 56))], none, []⟩, ⟨none, 1001053, .store 10 (.t 4) (.t 57), none, []⟩])
  .ret))
theorem k14 : compCode Try.prog Try.f14.ntmps Try.f14.body.get! = some c14 := by kernel_rfl
theorem r14 : resTmps Try.prog Try.f14.results.toList = some [.cell 4 true 10] := by kernel_rfl
/- impl.EffJoin -/
def c16 : TCode := (.seq (.ops [⟨(some 2), 4, .box 10 (.t 0), none, []⟩, ⟨(some 3), 5, .box 10 (.t 1), none, []⟩, ⟨(some 4), 6, .box 10 (.c (.ag [(.sl true 1 []), (.sl true 1 []), (.sl true 1 []), (.sl true 1 []), (.sl true 1 []), (.sl true 1 []), (.sl true 1 []), (.sl true 1 []), (.b false), (.b false)])), none, []⟩])
  (.seq (.draw [⟨(some 5), 7, .faddr 0 1 (.t 2), none, []⟩, ⟨(some 6), 8, .load false 1 (.t 5), none, []⟩, ⟨(some 7), 9, .faddr 0 1 (.t 3), none, []⟩, ⟨(some 8), 10, .load false 1 (.t 7), none, []⟩, ⟨(some 9), 11, .call 70 [((.t 6), 0), ((.t 8), 0)], none, []⟩, ⟨(some 10), 12, .faddr 1 1 (.t 2), none, [4]⟩, ⟨(some 11), 13, .load false 1 (.t 10), none, [4]⟩, ⟨(some 12), 14, .faddr 1 1 (.t 3), none, [4]⟩, ⟨(some 13), 15, .load false 1 (.t 12), none, [4]⟩, ⟨(some 14), 16, .call 70 [((.t 11), 0), ((.t 13), 0)], none, []⟩, ⟨(some 15), 17, .faddr 2 1 (.t 2), none, [4, 9]⟩, ⟨(some 16), 18, .load false 1 (.t 15), none, [4, 9]⟩, ⟨(some 17), 19, .faddr 2 1 (.t 3), none, [4, 9]⟩, ⟨(some 18), 20, .load false 1 (.t 17), none, [4, 9]⟩, ⟨(some 19), 21, .call 70 [((.t 16), 0), ((.t 18), 0)], none, []⟩, ⟨(some 20), 22, .faddr 3 1 (.t 2), none, [4, 9, 14]⟩, ⟨(some 21), 23, .load false 1 (.t 20), none, [4, 9, 14]⟩, ⟨(some 22), 24, .faddr 3 1 (.t 3), none, [4, 9, 14]⟩, ⟨(some 23), 25, .load false 1 (.t 22), none, [4, 9, 14]⟩, ⟨(some 24), 26, .call 70 [((.t 21), 0), ((.t 23), 0)], none, []⟩, ⟨(some 25), 27, .faddr 4 1 (.t 2), none, [4, 9, 14, 19]⟩, ⟨(some 26), 28, .load false 1 (.t 25), none, [4, 9, 14, 19]⟩, ⟨(some 27), 29, .faddr 4 1 (.t 3), none, [4, 9, 14, 19]⟩, ⟨(some 28), 30, .load false 1 (.t 27), none, [4, 9, 14, 19]⟩, ⟨(some 29), 31, .call 70 [((.t 26), 0), ((.t 28), 0)], none, []⟩, ⟨(some 30), 32, .faddr 5 1 (.t 2), none, [4, 9, 14, 19, 24]⟩, ⟨(some 31), 33, .load false 1 (.t 30), none, [4, 9, 14, 19, 24]⟩, ⟨(some 32), 34, .faddr 5 1 (.t 3), none, [4, 9, 14, 19, 24]⟩, ⟨(some 33), 35, .load false 1 (.t 32), none, [4, 9, 14, 19, 24]⟩, ⟨(some 34), 36, .call 70 [((.t 31), 0), ((.t 33), 0)], none, []⟩, ⟨(some 35), 37, .faddr 6 1 (.t 2), none, [4, 9, 14, 19, 24, 29]⟩, ⟨(some 36), 38, .load false 1 (.t 35), none, [4, 9, 14, 19, 24, 29]⟩, ⟨(some 37), 39, .faddr 6 1 (.t 3), none, [4, 9, 14, 19, 24, 29]⟩, ⟨(some 38), 40, .load false 1 (.t 37), none, [4, 9, 14, 19, 24, 29]⟩, ⟨(some 39), 41, .call 70 [((.t 36), 0), ((.t 38), 0)], none, []⟩, ⟨(some 40), 42, .faddr 7 1 (.t 2), none, [4, 9, 14, 19, 24, 29, 34]⟩, ⟨(some 41), 43, .load false 1 (.t 40), none, [4, 9, 14, 19, 24, 29, 34]⟩, ⟨(some 42), 44, .faddr 7 1 (.t 3), none, [4, 9, 14, 19, 24, 29, 34]⟩, ⟨(some 43), 45, .load false 1 (.t 42), none, [4, 9, 14, 19, 24, 29, 34]⟩, ⟨(some 44), 46, .call 70 [((.t 41), 0), ((.t 43), 0)], none, []⟩, ⟨(some 45), 47, .faddr 8 1 (.t 2), none, [4, 9, 14, 19, 24, 29, 34, 39]⟩, ⟨(some 46), 48, .load false 1 (.t 45), none, [4, 9, 14, 19, 24, 29, 34, 39]⟩, ⟨(some 47), 49, .mv (.t 46), none, []⟩, ⟨(some 48), 50, .faddr 8 1 (.t 3), (some (47, false)), []⟩, ⟨(some 49), 51, .load false 1 (.t 48), (some (47, false)), []⟩, ⟨(some 50), 52, .pick (.t 47) (.c (.b true)) (.t 49), none, []⟩, ⟨(some 51), 53, .faddr 9 1 (.t 2), none, [4, 9, 14, 19, 24, 29, 34, 39]⟩, ⟨(some 52), 54, .load false 1 (.t 51), none, [4, 9, 14, 19, 24, 29, 34, 39]⟩, ⟨(some 53), 55, .mv (.t 52), none, []⟩, ⟨(some 54), 56, .faddr 9 1 (.t 3), (some (53, false)), []⟩, ⟨(some 55), 57, .load false 1 (.t 54), (some (53, false)), []⟩, ⟨(some 56), 58, .pick (.t 53) (.c (.b true)) (.t 55), none, []⟩, ⟨(some 57), 59, .build [(.sl true 1 []), (.sl true 1 []), (.sl true 1 []), (.sl true 1 []), (.sl true 1 []), (.sl true 1 []), (.sl true 1 []), (.sl true 1 []), (.b false), (.b false)] [(0, 1, (.t 9)), (1, 1, (.t 14)), (2, 1, (.t 19)), (3, 1, (.t 24)), (4, 1, (.t 29)), (5, 1, (.t 34)), (6, 1, (.t 39)), (7, 1, (.t 44)), (8, 1, (.t 50)), (9, 1, (.t 56))], none, []⟩, ⟨none, 1001053, .store 10 (.t 4) (.t 57), none, []⟩])
  .ret))
theorem k16 : compCode Try.prog Try.f16.ntmps Try.f16.body.get! = some c16 := by kernel_rfl
theorem r16 : resTmps Try.prog Try.f16.results.toList = some [.cell 4 true 10] := by kernel_rfl
/- laws.markEffect -/
def c18 : TCode := (.seq (.ops [⟨(some 2), 4, .box 10 (.t 0), none, []⟩, ⟨(some 4), 6, .mv (.c (.i .i64 0)), none, []⟩])
  (.seq (.ops [⟨(some 5), 7, .faddr 0 1 (.t 2), none, []⟩, ⟨(some 6), 8, .load false 1 (.t 5), none, []⟩, ⟨(some 7), 9, .mv (.t 1), none, []⟩, ⟨(some 8), 10, .call 34 [((.t 6), 0), ((.t 7), 0)], none, []⟩, ⟨(some 1), 3, .mv (.t 8), none, []⟩])
  (.seq (.ops [⟨(some 9), 11, .faddr 1 1 (.t 2), none, []⟩, ⟨(some 10), 12, .load false 1 (.t 9), none, []⟩, ⟨(some 11), 13, .mv (.t 1), none, []⟩, ⟨(some 12), 14, .call 34 [((.t 10), 0), ((.t 11), 0)], none, []⟩, ⟨(some 1), 3, .mv (.t 12), none, []⟩])
  (.seq (.ops [⟨(some 13), 15, .faddr 2 1 (.t 2), none, []⟩, ⟨(some 14), 16, .load false 1 (.t 13), none, []⟩, ⟨(some 15), 17, .mv (.t 1), none, []⟩, ⟨(some 16), 18, .call 34 [((.t 14), 0), ((.t 15), 0)], none, []⟩, ⟨(some 1), 3, .mv (.t 16), none, []⟩])
  (.seq (.ops [⟨(some 17), 19, .faddr 3 1 (.t 2), none, []⟩, ⟨(some 18), 20, .load false 1 (.t 17), none, []⟩, ⟨(some 19), 21, .mv (.t 1), none, []⟩, ⟨(some 20), 22, .call 34 [((.t 18), 0), ((.t 19), 0)], none, []⟩, ⟨(some 1), 3, .mv (.t 20), none, []⟩])
  (.seq (.ops [⟨(some 21), 23, .faddr 4 1 (.t 2), none, []⟩, ⟨(some 22), 24, .load false 1 (.t 21), none, []⟩, ⟨(some 23), 25, .mv (.t 1), none, []⟩, ⟨(some 24), 26, .call 34 [((.t 22), 0), ((.t 23), 0)], none, []⟩, ⟨(some 1), 3, .mv (.t 24), none, []⟩])
  (.seq (.ops [⟨(some 25), 27, .faddr 5 1 (.t 2), none, []⟩, ⟨(some 26), 28, .load false 1 (.t 25), none, []⟩, ⟨(some 27), 29, .mv (.t 1), none, []⟩, ⟨(some 28), 30, .call 34 [((.t 26), 0), ((.t 27), 0)], none, []⟩, ⟨(some 1), 3, .mv (.t 28), none, []⟩])
  (.seq (.ops [⟨(some 29), 31, .faddr 6 1 (.t 2), none, []⟩, ⟨(some 30), 32, .load false 1 (.t 29), none, []⟩, ⟨(some 31), 33, .mv (.t 1), none, []⟩, ⟨(some 32), 34, .call 34 [((.t 30), 0), ((.t 31), 0)], none, []⟩, ⟨(some 1), 3, .mv (.t 32), none, []⟩])
  (.seq (.ops [⟨(some 33), 35, .faddr 7 1 (.t 2), none, []⟩, ⟨(some 34), 36, .load false 1 (.t 33), none, []⟩, ⟨(some 35), 37, .mv (.t 1), none, []⟩, ⟨(some 36), 38, .call 34 [((.t 34), 0), ((.t 35), 0)], none, []⟩, ⟨(some 1), 3, .mv (.t 36), none, []⟩])
  (.seq (.ops [⟨(some 37), 39, .mv (.t 1), none, []⟩, ⟨(some 4), 6, .mv (.t 37), none, []⟩])
  .ret))))))))))
theorem k18 : compCode Try.prog Try.f18.ntmps Try.f18.body.get! = some c18 := by kernel_rfl
theorem r18 : resTmps Try.prog Try.f18.results.toList = some [.tmp 4] := by kernel_rfl
/- laws.heldEffect -/
def c19 : TCode := (.seq (.ops [⟨(some 2), 4, .box 10 (.t 0), none, []⟩, ⟨(some 4), 6, .mv (.c (.i .i64 0)), none, []⟩])
  (.seq (.ops [⟨(some 5), 7, .faddr 0 1 (.t 2), none, []⟩, ⟨(some 6), 8, .load false 1 (.t 5), none, []⟩, ⟨(some 7), 9, .mv (.t 1), none, []⟩, ⟨(some 8), 10, .call 35 [((.t 6), 0), ((.t 7), 0)], none, []⟩, ⟨(some 1), 3, .mv (.t 8), none, []⟩])
  (.seq (.seq (.ops [⟨(some 9), 11, .mv (.t 1), none, []⟩, ⟨(some 10), 12, .bin .lss (.t 9) (.c (.i .i64 0)), none, []⟩])
  (.cond (.t 10)
  (.seq (.ops [⟨(some 4), 6, .mv (.c (.i .i64 (-1))), none, []⟩])
  .ret)
  .skip))
  (.seq (.ops [⟨(some 11), 13, .faddr 1 1 (.t 2), none, []⟩, ⟨(some 12), 14, .load false 1 (.t 11), none, []⟩, ⟨(some 13), 15, .mv (.t 1), none, []⟩, ⟨(some 14), 16, .call 35 [((.t 12), 0), ((.t 13), 0)], none, []⟩, ⟨(some 1), 3, .mv (.t 14), none, []⟩])
  (.seq (.seq (.ops [⟨(some 15), 17, .mv (.t 1), none, []⟩, ⟨(some 16), 18, .bin .lss (.t 15) (.c (.i .i64 0)), none, []⟩])
  (.cond (.t 16)
  (.seq (.ops [⟨(some 4), 6, .mv (.c (.i .i64 (-1))), none, []⟩])
  .ret)
  .skip))
  (.seq (.ops [⟨(some 17), 19, .faddr 2 1 (.t 2), none, []⟩, ⟨(some 18), 20, .load false 1 (.t 17), none, []⟩, ⟨(some 19), 21, .mv (.t 1), none, []⟩, ⟨(some 20), 22, .call 35 [((.t 18), 0), ((.t 19), 0)], none, []⟩, ⟨(some 1), 3, .mv (.t 20), none, []⟩])
  (.seq (.seq (.ops [⟨(some 21), 23, .mv (.t 1), none, []⟩, ⟨(some 22), 24, .bin .lss (.t 21) (.c (.i .i64 0)), none, []⟩])
  (.cond (.t 22)
  (.seq (.ops [⟨(some 4), 6, .mv (.c (.i .i64 (-1))), none, []⟩])
  .ret)
  .skip))
  (.seq (.ops [⟨(some 23), 25, .faddr 3 1 (.t 2), none, []⟩, ⟨(some 24), 26, .load false 1 (.t 23), none, []⟩, ⟨(some 25), 27, .mv (.t 1), none, []⟩, ⟨(some 26), 28, .call 35 [((.t 24), 0), ((.t 25), 0)], none, []⟩, ⟨(some 1), 3, .mv (.t 26), none, []⟩])
  (.seq (.seq (.ops [⟨(some 27), 29, .mv (.t 1), none, []⟩, ⟨(some 28), 30, .bin .lss (.t 27) (.c (.i .i64 0)), none, []⟩])
  (.cond (.t 28)
  (.seq (.ops [⟨(some 4), 6, .mv (.c (.i .i64 (-1))), none, []⟩])
  .ret)
  .skip))
  (.seq (.ops [⟨(some 29), 31, .faddr 4 1 (.t 2), none, []⟩, ⟨(some 30), 32, .load false 1 (.t 29), none, []⟩, ⟨(some 31), 33, .mv (.t 1), none, []⟩, ⟨(some 32), 34, .call 35 [((.t 30), 0), ((.t 31), 0)], none, []⟩, ⟨(some 1), 3, .mv (.t 32), none, []⟩])
  (.seq (.seq (.ops [⟨(some 33), 35, .mv (.t 1), none, []⟩, ⟨(some 34), 36, .bin .lss (.t 33) (.c (.i .i64 0)), none, []⟩])
  (.cond (.t 34)
  (.seq (.ops [⟨(some 4), 6, .mv (.c (.i .i64 (-1))), none, []⟩])
  .ret)
  .skip))
  (.seq (.ops [⟨(some 35), 37, .faddr 5 1 (.t 2), none, []⟩, ⟨(some 36), 38, .load false 1 (.t 35), none, []⟩, ⟨(some 37), 39, .mv (.t 1), none, []⟩, ⟨(some 38), 40, .call 35 [((.t 36), 0), ((.t 37), 0)], none, []⟩, ⟨(some 1), 3, .mv (.t 38), none, []⟩])
  (.seq (.seq (.ops [⟨(some 39), 41, .mv (.t 1), none, []⟩, ⟨(some 40), 42, .bin .lss (.t 39) (.c (.i .i64 0)), none, []⟩])
  (.cond (.t 40)
  (.seq (.ops [⟨(some 4), 6, .mv (.c (.i .i64 (-1))), none, []⟩])
  .ret)
  .skip))
  (.seq (.ops [⟨(some 41), 43, .faddr 6 1 (.t 2), none, []⟩, ⟨(some 42), 44, .load false 1 (.t 41), none, []⟩, ⟨(some 43), 45, .mv (.t 1), none, []⟩, ⟨(some 44), 46, .call 35 [((.t 42), 0), ((.t 43), 0)], none, []⟩, ⟨(some 1), 3, .mv (.t 44), none, []⟩])
  (.seq (.seq (.ops [⟨(some 45), 47, .mv (.t 1), none, []⟩, ⟨(some 46), 48, .bin .lss (.t 45) (.c (.i .i64 0)), none, []⟩])
  (.cond (.t 46)
  (.seq (.ops [⟨(some 4), 6, .mv (.c (.i .i64 (-1))), none, []⟩])
  .ret)
  .skip))
  (.seq (.ops [⟨(some 47), 49, .faddr 7 1 (.t 2), none, []⟩, ⟨(some 48), 50, .load false 1 (.t 47), none, []⟩, ⟨(some 49), 51, .mv (.t 1), none, []⟩, ⟨(some 50), 52, .call 35 [((.t 48), 0), ((.t 49), 0)], none, []⟩, ⟨(some 1), 3, .mv (.t 50), none, []⟩])
  (.seq (.seq (.ops [⟨(some 51), 53, .mv (.t 1), none, []⟩, ⟨(some 52), 54, .bin .lss (.t 51) (.c (.i .i64 0)), none, []⟩])
  (.cond (.t 52)
  (.seq (.ops [⟨(some 4), 6, .mv (.c (.i .i64 (-1))), none, []⟩])
  .ret)
  .skip))
  (.seq (.ops [⟨(some 53), 55, .mv (.t 1), none, []⟩, ⟨(some 4), 6, .mv (.t 53), none, []⟩])
  .ret))))))))))))))))))
theorem k19 : compCode Try.prog Try.f19.ntmps Try.f19.body.get! = some c19 := by kernel_rfl
theorem r19 : resTmps Try.prog Try.f19.results.toList = some [.tmp 4] := by kernel_rfl
/- laws.FnExactEffJoin -/
def c3 : TCode := (.seq (.ops [⟨(some 2), 4, .box 10 (.t 0), none, []⟩, ⟨(some 3), 5, .box 10 (.t 1), none, []⟩, ⟨(some 4), 6, .mv (.c (.b false)), none, []⟩])
  (.seq (.ops [⟨(some 5), 7, .mv (.c (.i .i64 1048576)), none, []⟩])
  (.seq (.ops [⟨(some 14), 16, .load true 10 (.t 2), none, []⟩, ⟨(some 15), 17, .mv (.t 5), none, []⟩, ⟨(some 16), 18, .call 13 [((.t 14), 0), ((.t 15), 0)], none, []⟩, ⟨(some 5), 7, .mv (.t 16), none, []⟩])
  (.seq (.seq (.ops [⟨(some 17), 19, .mv (.t 5), none, []⟩, ⟨(some 18), 20, .bin .lss (.t 17) (.c (.i .i64 0)), none, []⟩])
  (.cond (.t 18)
  (.seq (.ops [⟨(some 4), 6, .mv (.c (.b true)), none, []⟩])
  .ret)
  .skip))
  (.seq (.ops [⟨(some 19), 21, .load true 10 (.t 3), none, []⟩, ⟨(some 20), 22, .mv (.t 5), none, []⟩, ⟨(some 21), 23, .call 13 [((.t 19), 0), ((.t 20), 0)], none, []⟩, ⟨(some 5), 7, .mv (.t 21), none, []⟩])
  (.seq (.seq (.ops [⟨(some 22), 24, .mv (.t 5), none, []⟩, ⟨(some 23), 25, .bin .lss (.t 22) (.c (.i .i64 0)), none, []⟩])
  (.cond (.t 23)
  (.seq (.ops [⟨(some 4), 6, .mv (.c (.b true)), none, []⟩])
  .ret)
  .skip))
  (.seq (.draw [⟨(some 24), 26, .load true 10 (.t 2), none, []⟩, ⟨(some 25), 27, .call 15 [((.t 24), 0)], none, []⟩, ⟨(some 26), 28, .load true 10 (.t 3), none, [1]⟩, ⟨(some 27), 29, .call 15 [((.t 26), 0)], none, []⟩, ⟨(some 28), 30, .call 14 [((.t 25), 0), ((.t 27), 0)], none, []⟩, ⟨(some 6), 8, .box 10 (.c (.ag [(.sl true 1 []), (.sl true 1 []), (.sl true 1 []), (.sl true 1 []), (.sl true 1 []), (.sl true 1 []), (.sl true 1 []), (.sl true 1 []), (.b false), (.b false)])), none, [0, 1, 2, 3, 4]⟩, ⟨none, 1008006, .store 10 (.t 6) (.t 28), none, []⟩])
  (.seq (.ops [⟨(some 29), 31, .load true 10 (.t 2), none, []⟩, ⟨(some 30), 32, .call 15 [((.t 29), 0)], none, []⟩, ⟨(some 7), 9, .box 10 (.c (.ag [(.sl true 1 []), (.sl true 1 []), (.sl true 1 []), (.sl true 1 []), (.sl true 1 []), (.sl true 1 []), (.sl true 1 []), (.sl true 1 []), (.b false), (.b false)])), none, []⟩, ⟨none, 1009003, .store 10 (.t 7) (.t 30), none, []⟩])
  (.seq (.ops [⟨(some 31), 33, .load true 10 (.t 3), none, []⟩, ⟨(some 32), 34, .call 15 [((.t 31), 0)], none, []⟩, ⟨(some 8), 10, .box 10 (.c (.ag [(.sl true 1 []), (.sl true 1 []), (.sl true 1 []), (.sl true 1 []), (.sl true 1 []), (.sl true 1 []), (.sl true 1 []), (.sl true 1 []), (.b false), (.b false)])), none, []⟩, ⟨none, 1010003, .store 10 (.t 8) (.t 32), none, []⟩])
  (.seq (.ops [⟨(some 33), 35, .load true 10 (.t 7), none, []⟩, ⟨(some 34), 36, .load true 10 (.t 8), none, []⟩, ⟨(some 35), 37, .call 16 [((.t 33), 0), ((.t 34), 0)], none, []⟩, ⟨(some 9), 11, .box 10 (.c (.ag [(.sl true 1 []), (.sl true 1 []), (.sl true 1 []), (.sl true 1 []), (.sl true 1 []), (.sl true 1 []), (.sl true 1 []), (.sl true 1 []), (.b false), (.b false)])), none, []⟩, ⟨none, 1011004, .store 10 (.t 9) (.t 35), none, []⟩])
  (.seq (.seq (.ops [⟨(some 36), 38, .load true 10 (.t 9), none, []⟩, ⟨(some 37), 39, .load true 10 (.t 6), none, []⟩, ⟨(some 38), 40, .call 17 [((.t 36), 0), ((.t 37), 0)], none, []⟩, ⟨(some 39), 41, .un .not (.t 38), none, []⟩])
  (.cond (.t 39)
  (.seq (.ops [⟨(some 4), 6, .mv (.c (.b false)), none, []⟩])
  .ret)
  .skip))
  (.seq (.seq (.draw [⟨(some 40), 42, .load true 10 (.t 7), none, []⟩, ⟨(some 41), 43, .load true 10 (.t 2), none, []⟩, ⟨(some 42), 44, .call 15 [((.t 41), 0)], none, [0]⟩, ⟨(some 43), 45, .call 17 [((.t 40), 0), ((.t 42), 0)], none, []⟩, ⟨(some 44), 46, .un .not (.t 43), none, []⟩])
  (.cond (.t 44)
  (.seq (.ops [⟨(some 4), 6, .mv (.c (.b false)), none, []⟩])
  .ret)
  .skip))
  (.seq (.seq (.draw [⟨(some 45), 47, .load true 10 (.t 8), none, []⟩, ⟨(some 46), 48, .load true 10 (.t 3), none, []⟩, ⟨(some 47), 49, .call 15 [((.t 46), 0)], none, [0]⟩, ⟨(some 48), 50, .call 17 [((.t 45), 0), ((.t 47), 0)], none, []⟩, ⟨(some 49), 51, .un .not (.t 48), none, []⟩])
  (.cond (.t 49)
  (.seq (.ops [⟨(some 4), 6, .mv (.c (.b false)), none, []⟩])
  .ret)
  .skip))
  (.seq (.ops [⟨(some 10), 12, .mv (.c (.i .i64 1)), none, []⟩])
  (.seq (.ops [⟨(some 50), 52, .load true 10 (.t 7), none, []⟩, ⟨(some 51), 53, .mv (.t 10), none, []⟩, ⟨(some 52), 54, .call 18 [((.t 50), 0), ((.t 51), 0)], none, []⟩, ⟨(some 10), 12, .mv (.t 52), none, []⟩])
  (.seq (.ops [⟨(some 53), 55, .load true 10 (.t 8), none, []⟩, ⟨(some 54), 56, .mv (.t 10), none, []⟩, ⟨(some 55), 57, .call 18 [((.t 53), 0), ((.t 54), 0)], none, []⟩, ⟨(some 10), 12, .mv (.t 55), none, []⟩])
  (.seq (.seq (.ops [⟨(some 56), 58, .mv (.t 10), none, []⟩, ⟨(some 57), 59, .bin .lss (.t 56) (.c (.i .i64 0)), none, []⟩, ⟨(some 58), 60, .mv (.t 57), none, []⟩, ⟨(some 59), 61, .load true 10 (.t 9), (some (58, false)), []⟩, ⟨(some 60), 62, .load true 10 (.t 6), (some (58, false)), []⟩, ⟨(some 61), 63, .call 17 [((.t 59), 0), ((.t 60), 0)], (some (58, false)), []⟩, ⟨(some 62), 64, .un .not (.t 61), (some (58, false)), []⟩, ⟨(some 63), 65, .pick (.t 58) (.c (.b true)) (.t 62), none, []⟩])
  (.cond (.t 63)
  (.seq (.ops [⟨(some 4), 6, .mv (.c (.b false)), none, []⟩])
  .ret)
  .skip))
  (.seq (.ops [⟨(some 11), 13, .mv (.c (.i .i64 1)), none, []⟩])
  (.seq (.ops [⟨(some 64), 66, .load true 10 (.t 9), none, []⟩, ⟨(some 65), 67, .mv (.t 11), none, []⟩, ⟨(some 66), 68, .call 18 [((.t 64), 0), ((.t 65), 0)], none, []⟩, ⟨(some 11), 13, .mv (.t 66), none, []⟩])
  (.seq (.ops [⟨(some 12), 14, .mv (.c (.i .i64 1)), none, []⟩])
  (.seq (.ops [⟨(some 67), 69, .load true 10 (.t 9), none, []⟩, ⟨(some 68), 70, .mv (.t 12), none, []⟩, ⟨(some 69), 71, .call 19 [((.t 67), 0), ((.t 68), 0)], none, []⟩, ⟨(some 12), 14, .mv (.t 69), none, []⟩])
  (.seq (.seq (.ops [⟨(some 70), 72, .mv (.t 12), none, []⟩, ⟨(some 71), 73, .bin .lss (.t 70) (.c (.i .i64 0)), none, []⟩])
  (.cond (.t 71)
  (.seq (.ops [⟨(some 4), 6, .mv (.c (.b false)), none, []⟩])
  .ret)
  .skip))
  (.seq (.seq (.ops [⟨(some 72), 74, .mv (.t 12), none, []⟩, ⟨(some 73), 75, .mv (.t 11), none, []⟩, ⟨(some 74), 76, .bin .neq (.t 72) (.t 73), none, []⟩])
  (.cond (.t 74)
  (.seq (.ops [⟨(some 4), 6, .mv (.c (.b false)), none, []⟩])
  .ret)
  .skip))
  (.seq (.draw [⟨(some 75), 77, .load true 10 (.t 2), none, []⟩, ⟨(some 76), 78, .call 15 [((.t 75), 0)], none, []⟩, ⟨(some 77), 79, .load true 10 (.t 3), none, [1]⟩, ⟨(some 78), 80, .call 15 [((.t 77), 0)], none, []⟩, ⟨(some 79), 81, .call 16 [((.t 76), 0), ((.t 78), 0)], none, []⟩, ⟨(some 13), 15, .box 10 (.c (.ag [(.sl true 1 []), (.sl true 1 []), (.sl true 1 []), (.sl true 1 []), (.sl true 1 []), (.sl true 1 []), (.sl true 1 []), (.sl true 1 []), (.b false), (.b false)])), none, [0, 1, 2, 3, 4]⟩, ⟨none, 1031006, .store 10 (.t 13) (.t 79), none, []⟩])
  (.seq (.seq (.ops [⟨(some 80), 82, .load true 10 (.t 13), none, []⟩, ⟨(some 81), 83, .load true 10 (.t 6), none, []⟩, ⟨(some 82), 84, .call 17 [((.t 80), 0), ((.t 81), 0)], none, []⟩, ⟨(some 83), 85, .un .not (.t 82), none, []⟩])
  (.cond (.t 83)
  (.seq (.ops [⟨(some 4), 6, .mv (.c (.b false)), none, []⟩])
  .ret)
  .skip))
  (.seq (.ops [⟨(some 12), 14, .mv (.c (.i .i64 1)), none, []⟩])
  (.seq (.ops [⟨(some 84), 86, .load true 10 (.t 9), none, []⟩, ⟨(some 85), 87, .mv (.t 12), none, []⟩, ⟨(some 86), 88, .call 19 [((.t 84), 0), ((.t 85), 0)], none, []⟩, ⟨(some 12), 14, .mv (.t 86), none, []⟩])
  (.seq (.seq (.ops [⟨(some 87), 89, .mv (.t 12), none, []⟩, ⟨(some 88), 90, .bin .lss (.t 87) (.c (.i .i64 0)), none, []⟩])
  (.cond (.t 88)
  (.seq (.ops [⟨(some 4), 6, .mv (.c (.b false)), none, []⟩])
  .ret)
  .skip))
  (.seq (.seq (.ops [⟨(some 89), 91, .mv (.t 12), none, []⟩, ⟨(some 90), 92, .mv (.t 11), none, []⟩, ⟨(some 91), 93, .bin .neq (.t 89) (.t 90), none, []⟩])
  (.cond (.t 91)
  (.seq (.ops [⟨(some 4), 6, .mv (.c (.b false)), none, []⟩])
  .ret)
  .skip))
  (.seq (.ops [⟨(some 4), 6, .mv (.c (.b true)), none, []⟩])
  .ret))))))))))))))))))))))))))))))
theorem k3 : compCode Try.prog Try.f3.ntmps Try.f3.body.get! = some c3 := by kernel_rfl
theorem r3 : resTmps Try.prog Try.f3.results.toList = some [.tmp 4] := by kernel_rfl

theorem w69 (a b : List Int) (ha : a.length ≤ 2^39) (hb : b.length ≤ 2^39) : Contract Try.prog false 69 [.ro, .ro] [.sl false 1 (a.map iT), .sl false 1 (b.map iT)] [.sl true 1 ((asc (a ++ b)).map iT)] [] := by
  refine mk_contract [] Try.func69 (c := Try.f69.body.get!) (by kernel_rfl) k69 r69 (of_decide_eq_true rfl) fun _ => ?_
  unfold c69; simp
  refine ⟨by omega, by omega, ?_⟩
  have hC := w77 (a ++ b) (by simp; omega)
  rw [List.map_append] at hC
  refine callW_ms [.ro] ?_
  simp
  refine callX_of hC (by simp) ?_
  simp
theorem w70 (a b : List Int) (ha : a.length ≤ 2^39) (hb : b.length ≤ 2^39) : Contract Try.prog false 70 [.ro, .ro] [.sl false 1 (a.map iT), .sl false 1 (b.map iT)] [.sl true 1 ((asc (a ++ b)).map iT)] [] := by
  refine mk_contract [] Try.func70 (c := Try.f70.body.get!) (by kernel_rfl) k70 r70 (of_decide_eq_true rfl) fun _ => ?_
  unfold c70; simp
  refine callW_ms [.ro] ?_
  simp
  refine callX_of (w130 a (by omega)) (by simp) ?_
  simp
  refine ⟨by omega, ?_⟩
  have hC := w78 (a ++ b) (by simp; omega)
  rw [List.map_append] at hC
  refine callW_ms [.own] ?_
  simp
  refine callX_of hC (by simp) ?_
  simp
def effJ (a b : EffP) : EffP := (asc (a.1 ++ b.1), asc (a.2.1 ++ b.2.1), asc (a.2.2.1 ++ b.2.2.1), asc (a.2.2.2.1 ++ b.2.2.2.1), asc (a.2.2.2.2.1 ++ b.2.2.2.2.1), asc (a.2.2.2.2.2.1 ++ b.2.2.2.2.2.1), asc (a.2.2.2.2.2.2.1 ++ b.2.2.2.2.2.2.1), asc (a.2.2.2.2.2.2.2.1 ++ b.2.2.2.2.2.2.2.1), a.2.2.2.2.2.2.2.2.1 || b.2.2.2.2.2.2.2.2.1, a.2.2.2.2.2.2.2.2.2 || b.2.2.2.2.2.2.2.2.2)
theorem effJ_b {a b : EffP} {k : Nat} (ha : effB k a) (hb : effB k b) : effB (2 * k) (effJ a b) := by
  unfold effB at ha hb ⊢
  have h := fun (x y : List Int) => asc_len (x ++ y)
  simp only [List.length_append] at h
  have h0 := h a.1 b.1
  have h1 := h a.2.1 b.2.1
  have h2 := h a.2.2.1 b.2.2.1
  have h3 := h a.2.2.2.1 b.2.2.2.1
  have h4 := h a.2.2.2.2.1 b.2.2.2.2.1
  have h5 := h a.2.2.2.2.2.1 b.2.2.2.2.2.1
  have h6 := h a.2.2.2.2.2.2.1 b.2.2.2.2.2.2.1
  have h7 := h a.2.2.2.2.2.2.2.1 b.2.2.2.2.2.2.2.1
  simp only [effJ]
  omega
set_option maxRecDepth 100000 in
theorem w14 (a b : EffP) (ha : effB (2^39) a) (hb : effB (2^39) b) : Contract Try.prog false 14 [.ro, .ro] [effR a, effR b] [effO (effJ a b)] [] := by
  refine mk_contract [] Try.func14 (c := Try.f14.body.get!) (by kernel_rfl) k14 r14 (of_decide_eq_true rfl) fun _ => ?_
  obtain ⟨a1, a2, a3, a4, a5, a6, a7, a8⟩ := ha
  obtain ⟨b1, b2, b3, b4, b5, b6, b7, b8⟩ := hb
  unfold c14; unfold effR effO effJ; simp
  refine callW_ms [.ro, .ro] ?_
  simp
  refine callX_of (w69 a.1 b.1 a1 b1) (by simp) ?_
  simp
  refine callW_ms [.ro, .ro] ?_
  simp
  refine callX_of (w69 a.2.1 b.2.1 a2 b2) (by simp) ?_
  simp
  refine callW_ms [.ro, .ro] ?_
  simp
  refine callX_of (w69 a.2.2.1 b.2.2.1 a3 b3) (by simp) ?_
  simp
  refine callW_ms [.ro, .ro] ?_
  simp
  refine callX_of (w69 a.2.2.2.1 b.2.2.2.1 a4 b4) (by simp) ?_
  simp
  refine callW_ms [.ro, .ro] ?_
  simp
  refine callX_of (w69 a.2.2.2.2.1 b.2.2.2.2.1 a5 b5) (by simp) ?_
  simp
  refine callW_ms [.ro, .ro] ?_
  simp
  refine callX_of (w69 a.2.2.2.2.2.1 b.2.2.2.2.2.1 a6 b6) (by simp) ?_
  simp
  refine callW_ms [.ro, .ro] ?_
  simp
  refine callX_of (w69 a.2.2.2.2.2.2.1 b.2.2.2.2.2.2.1 a7 b7) (by simp) ?_
  simp
  refine callW_ms [.ro, .ro] ?_
  simp
  refine callX_of (w69 a.2.2.2.2.2.2.2.1 b.2.2.2.2.2.2.2.1 a8 b8) (by simp) ?_
  simp
  cases h9 : a.2.2.2.2.2.2.2.2.1 <;> cases h10 : a.2.2.2.2.2.2.2.2.2 <;> simp [h9, h10]
set_option maxRecDepth 100000 in
theorem w16 (a b : EffP) (ha : effB (2^39) a) (hb : effB (2^39) b) : Contract Try.prog false 16 [.ro, .ro] [effR a, effR b] [effO (effJ a b)] [] := by
  refine mk_contract [] Try.func16 (c := Try.f16.body.get!) (by kernel_rfl) k16 r16 (of_decide_eq_true rfl) fun _ => ?_
  obtain ⟨a1, a2, a3, a4, a5, a6, a7, a8⟩ := ha
  obtain ⟨b1, b2, b3, b4, b5, b6, b7, b8⟩ := hb
  unfold c16; unfold effR effO effJ; simp
  refine callW_ms [.ro, .ro] ?_
  simp
  refine callX_of (w70 a.1 b.1 a1 b1) (by simp) ?_
  simp
  refine callW_ms [.ro, .ro] ?_
  simp
  refine callX_of (w70 a.2.1 b.2.1 a2 b2) (by simp) ?_
  simp
  refine callW_ms [.ro, .ro] ?_
  simp
  refine callX_of (w70 a.2.2.1 b.2.2.1 a3 b3) (by simp) ?_
  simp
  refine callW_ms [.ro, .ro] ?_
  simp
  refine callX_of (w70 a.2.2.2.1 b.2.2.2.1 a4 b4) (by simp) ?_
  simp
  refine callW_ms [.ro, .ro] ?_
  simp
  refine callX_of (w70 a.2.2.2.2.1 b.2.2.2.2.1 a5 b5) (by simp) ?_
  simp
  refine callW_ms [.ro, .ro] ?_
  simp
  refine callX_of (w70 a.2.2.2.2.2.1 b.2.2.2.2.2.1 a6 b6) (by simp) ?_
  simp
  refine callW_ms [.ro, .ro] ?_
  simp
  refine callX_of (w70 a.2.2.2.2.2.2.1 b.2.2.2.2.2.2.1 a7 b7) (by simp) ?_
  simp
  refine callW_ms [.ro, .ro] ?_
  simp
  refine callX_of (w70 a.2.2.2.2.2.2.2.1 b.2.2.2.2.2.2.2.1 a8 b8) (by simp) ?_
  simp
  cases h9 : a.2.2.2.2.2.2.2.2.1 <;> cases h10 : a.2.2.2.2.2.2.2.2.2 <;> simp [h9, h10]
def nEf (e : EffP) : Nat := e.1.length + e.2.1.length + e.2.2.1.length + e.2.2.2.1.length + e.2.2.2.2.1.length + e.2.2.2.2.2.1.length + e.2.2.2.2.2.2.1.length + e.2.2.2.2.2.2.2.1.length
def mkEf (k : Int) (e : EffP) : EffP := (cnt (k) e.1.length, cnt (k + e.1.length) e.2.1.length, cnt (k + e.1.length + e.2.1.length) e.2.2.1.length, cnt (k + e.1.length + e.2.1.length + e.2.2.1.length) e.2.2.2.1.length, cnt (k + e.1.length + e.2.1.length + e.2.2.1.length + e.2.2.2.1.length) e.2.2.2.2.1.length, cnt (k + e.1.length + e.2.1.length + e.2.2.1.length + e.2.2.2.1.length + e.2.2.2.2.1.length) e.2.2.2.2.2.1.length, cnt (k + e.1.length + e.2.1.length + e.2.2.1.length + e.2.2.2.1.length + e.2.2.2.2.1.length + e.2.2.2.2.2.1.length) e.2.2.2.2.2.2.1.length, cnt (k + e.1.length + e.2.1.length + e.2.2.1.length + e.2.2.2.1.length + e.2.2.2.2.1.length + e.2.2.2.2.2.1.length + e.2.2.2.2.2.2.1.length) e.2.2.2.2.2.2.2.1.length, e.2.2.2.2.2.2.2.2.1, e.2.2.2.2.2.2.2.2.2)
@[simp] theorem mkEf_1 (k : Int) (e : EffP) : (mkEf k e).1.length = e.1.length := by simp [mkEf]
@[simp] theorem mkEf_2 (k : Int) (e : EffP) : (mkEf k e).2.1.length = e.2.1.length := by simp [mkEf]
@[simp] theorem mkEf_3 (k : Int) (e : EffP) : (mkEf k e).2.2.1.length = e.2.2.1.length := by simp [mkEf]
@[simp] theorem mkEf_4 (k : Int) (e : EffP) : (mkEf k e).2.2.2.1.length = e.2.2.2.1.length := by simp [mkEf]
@[simp] theorem mkEf_5 (k : Int) (e : EffP) : (mkEf k e).2.2.2.2.1.length = e.2.2.2.2.1.length := by simp [mkEf]
@[simp] theorem mkEf_6 (k : Int) (e : EffP) : (mkEf k e).2.2.2.2.2.1.length = e.2.2.2.2.2.1.length := by simp [mkEf]
@[simp] theorem mkEf_7 (k : Int) (e : EffP) : (mkEf k e).2.2.2.2.2.2.1.length = e.2.2.2.2.2.2.1.length := by simp [mkEf]
@[simp] theorem mkEf_8 (k : Int) (e : EffP) : (mkEf k e).2.2.2.2.2.2.2.1.length = e.2.2.2.2.2.2.2.1.length := by simp [mkEf]
@[simp] theorem mkEf_9 (k : Int) (e : EffP) : (mkEf k e).2.2.2.2.2.2.2.2.1 = e.2.2.2.2.2.2.2.2.1 := rfl
@[simp] theorem mkEf_10 (k : Int) (e : EffP) : (mkEf k e).2.2.2.2.2.2.2.2.2 = e.2.2.2.2.2.2.2.2.2 := rfl
set_option maxRecDepth 100000 in
theorem w18 (e : EffP) (k : Int) (hb : effB (2^30) e) (hk : 0 ≤ k) (hk2 : k ≤ 2^36) : Contract Try.prog false 18 [.own, .ro] [effO e, .i .i64 k] [.i .i64 (k + nEf e)] [some (.sl true 1 ((mkEf k e).1.map iT)), some (.sl true 1 ((mkEf k e).2.1.map iT)), some (.sl true 1 ((mkEf k e).2.2.1.map iT)), some (.sl true 1 ((mkEf k e).2.2.2.1.map iT)), some (.sl true 1 ((mkEf k e).2.2.2.2.1.map iT)), some (.sl true 1 ((mkEf k e).2.2.2.2.2.1.map iT)), some (.sl true 1 ((mkEf k e).2.2.2.2.2.2.1.map iT)), some (.sl true 1 ((mkEf k e).2.2.2.2.2.2.2.1.map iT)), none, none] := by
  refine mk_contract [some [(4, 0), (0, 0)], some [(4, 0), (0, 1)], some [(4, 0), (0, 2)], some [(4, 0), (0, 3)], some [(4, 0), (0, 4)], some [(4, 0), (0, 5)], some [(4, 0), (0, 6)], some [(4, 0), (0, 7)], none, none] Try.func18 (c := Try.f18.body.get!) (by kernel_rfl) k18 r18 (of_decide_eq_true rfl) fun _ => ?_
  obtain ⟨b1, b2, b3, b4, b5, b6, b7, b8⟩ := hb
  unfold c18; unfold effO mkEf nEf; simp
  refine callW_ms [.own, .ro] ?_
  simp
  refine callX_of (w34 e.1 (k) (by omega) (by omega) (by omega)) (by simp) ?_
  simp
  refine callW_ms [.own, .ro] ?_
  simp
  refine callX_of (w34 e.2.1 (k + e.1.length) (by omega) (by omega) (by omega)) (by simp) ?_
  simp
  refine callW_ms [.own, .ro] ?_
  simp
  refine callX_of (w34 e.2.2.1 (k + e.1.length + e.2.1.length) (by omega) (by omega) (by omega)) (by simp) ?_
  simp
  refine callW_ms [.own, .ro] ?_
  simp
  refine callX_of (w34 e.2.2.2.1 (k + e.1.length + e.2.1.length + e.2.2.1.length) (by omega) (by omega) (by omega)) (by simp) ?_
  simp
  refine callW_ms [.own, .ro] ?_
  simp
  refine callX_of (w34 e.2.2.2.2.1 (k + e.1.length + e.2.1.length + e.2.2.1.length + e.2.2.2.1.length) (by omega) (by omega) (by omega)) (by simp) ?_
  simp
  refine callW_ms [.own, .ro] ?_
  simp
  refine callX_of (w34 e.2.2.2.2.2.1 (k + e.1.length + e.2.1.length + e.2.2.1.length + e.2.2.2.1.length + e.2.2.2.2.1.length) (by omega) (by omega) (by omega)) (by simp) ?_
  simp
  refine callW_ms [.own, .ro] ?_
  simp
  refine callX_of (w34 e.2.2.2.2.2.2.1 (k + e.1.length + e.2.1.length + e.2.2.1.length + e.2.2.2.1.length + e.2.2.2.2.1.length + e.2.2.2.2.2.1.length) (by omega) (by omega) (by omega)) (by simp) ?_
  simp
  refine callW_ms [.own, .ro] ?_
  simp
  refine callX_of (w34 e.2.2.2.2.2.2.2.1 (k + e.1.length + e.2.1.length + e.2.2.1.length + e.2.2.2.1.length + e.2.2.2.2.1.length + e.2.2.2.2.2.1.length + e.2.2.2.2.2.2.1.length) (by omega) (by omega) (by omega)) (by simp) ?_
  simp
  omega
set_option maxRecDepth 100000 in
theorem w19 (e : EffP) (k : Int) (hb : effB (2^30) e) (hk : 0 ≤ k) (hk2 : k ≤ 2^36) : Contract Try.prog false 19 [.ro, .ro] [effR (mkEf k e), .i .i64 k] [.i .i64 (k + nEf e)] [] := by
  refine mk_contract [] Try.func19 (c := Try.f19.body.get!) (by kernel_rfl) k19 r19 (of_decide_eq_true rfl) fun _ => ?_
  obtain ⟨b1, b2, b3, b4, b5, b6, b7, b8⟩ := hb
  unfold c19; unfold effR mkEf nEf; simp
  refine callW_ms [.ro, .ro] ?_
  simp
  refine callX_of (W35 e.1.length (k) (by omega) (by omega) (by omega)) (by simp) ?_
  simp [show ¬ ((k : Int) + e.1.length < 0) from by omega]
  refine callW_ms [.ro, .ro] ?_
  simp
  refine callX_of (W35 e.2.1.length (k + e.1.length) (by omega) (by omega) (by omega)) (by simp) ?_
  simp [show ¬ ((k : Int) + e.1.length + e.2.1.length < 0) from by omega]
  refine callW_ms [.ro, .ro] ?_
  simp
  refine callX_of (W35 e.2.2.1.length (k + e.1.length + e.2.1.length) (by omega) (by omega) (by omega)) (by simp) ?_
  simp [show ¬ ((k : Int) + e.1.length + e.2.1.length + e.2.2.1.length < 0) from by omega]
  refine callW_ms [.ro, .ro] ?_
  simp
  refine callX_of (W35 e.2.2.2.1.length (k + e.1.length + e.2.1.length + e.2.2.1.length) (by omega) (by omega) (by omega)) (by simp) ?_
  simp [show ¬ ((k : Int) + e.1.length + e.2.1.length + e.2.2.1.length + e.2.2.2.1.length < 0) from by omega]
  refine callW_ms [.ro, .ro] ?_
  simp
  refine callX_of (W35 e.2.2.2.2.1.length (k + e.1.length + e.2.1.length + e.2.2.1.length + e.2.2.2.1.length) (by omega) (by omega) (by omega)) (by simp) ?_
  simp [show ¬ ((k : Int) + e.1.length + e.2.1.length + e.2.2.1.length + e.2.2.2.1.length + e.2.2.2.2.1.length < 0) from by omega]
  refine callW_ms [.ro, .ro] ?_
  simp
  refine callX_of (W35 e.2.2.2.2.2.1.length (k + e.1.length + e.2.1.length + e.2.2.1.length + e.2.2.2.1.length + e.2.2.2.2.1.length) (by omega) (by omega) (by omega)) (by simp) ?_
  simp [show ¬ ((k : Int) + e.1.length + e.2.1.length + e.2.2.1.length + e.2.2.2.1.length + e.2.2.2.2.1.length + e.2.2.2.2.2.1.length < 0) from by omega]
  refine callW_ms [.ro, .ro] ?_
  simp
  refine callX_of (W35 e.2.2.2.2.2.2.1.length (k + e.1.length + e.2.1.length + e.2.2.1.length + e.2.2.2.1.length + e.2.2.2.2.1.length + e.2.2.2.2.2.1.length) (by omega) (by omega) (by omega)) (by simp) ?_
  simp [show ¬ ((k : Int) + e.1.length + e.2.1.length + e.2.2.1.length + e.2.2.2.1.length + e.2.2.2.2.1.length + e.2.2.2.2.2.1.length + e.2.2.2.2.2.2.1.length < 0) from by omega]
  refine callW_ms [.ro, .ro] ?_
  simp
  refine callX_of (W35 e.2.2.2.2.2.2.2.1.length (k + e.1.length + e.2.1.length + e.2.2.1.length + e.2.2.2.1.length + e.2.2.2.2.1.length + e.2.2.2.2.2.1.length + e.2.2.2.2.2.2.1.length) (by omega) (by omega) (by omega)) (by simp) ?_
  simp [show ¬ ((k : Int) + e.1.length + e.2.1.length + e.2.2.1.length + e.2.2.2.1.length + e.2.2.2.2.1.length + e.2.2.2.2.2.1.length + e.2.2.2.2.2.2.1.length + e.2.2.2.2.2.2.2.1.length < 0) from by omega]
  omega
set_option maxRecDepth 100000 in
theorem w3 (a b : EffP) (ha : effB 9223372036854775807 a) (hb : effB 9223372036854775807 b) : Contract Try.prog false 3 [.ro, .ro] [effR a, effR b] [.b true] [] := by
  refine mk_contract [] Try.func3 (c := Try.f3.body.get!) (by kernel_rfl) k3 r3 (of_decide_eq_true rfl) fun _ => ?_
  unfold c3; unfold effR; simp
  refine callW_ms [.ro, .ro] ?_
  simp [effR]
  refine callX_of (w13 a _ ha (by omega) (by omega)) (by simp) ?_
  simp
  intro h
  obtain ⟨n0, n1, ha1⟩ := szEff_ok (k := 2^20) (by omega) (by omega) (by omega : ¬ szEffF a 1048576 < 0)
  generalize szEffF a 1048576 = n at *
  refine callW_ms [.ro, .ro] ?_
  simp [effR]
  refine callX_of (w13 b n hb (by omega) n0) (by simp) ?_
  simp
  intro h2
  obtain ⟨-, -, hb1⟩ := szEff_ok (k := 2^20) n0 (by omega) (by omega : ¬ szEffF b n < 0)
  have ha2 : effB (2^40) a := by unfold effB at ha1 ⊢; omega
  have hb2 : effB (2^40) b := by unfold effB at hb1 ⊢; omega
  have ha3 : effB (2^39) a := by unfold effB at ha1 ⊢; omega
  have hb3 : effB (2^39) b := by unfold effB at hb1 ⊢; omega
  have ha4 : effB (2^30) a := by unfold effB at ha1 ⊢; omega
  have hb4 : effB (2^30) b := by unfold effB at hb1 ⊢; omega
  have hj1 := effJ_b ha1 hb1
  have hS := w14 a b ha3 hb3
  have hI := w16 a b ha3 hb3
  generalize effJ a b = w at *
  have hj2 : effB (2^40) w := by unfold effB at hj1 ⊢; omega
  have hj3 : effB (2^30) w := by unfold effB at hj1 ⊢; omega
  have na : nEf a ≤ 2^24 := by unfold effB at ha1; unfold nEf; omega
  have nb : nEf b ≤ 2^24 := by unfold effB at hb1; unfold nEf; omega
  have nw : nEf w ≤ 2^25 := by unfold effB at hj1; unfold nEf; omega
  refine callW_ms [.ro] ?_
  simp [effR]
  refine callX_of (w15 a ha2) (by simp) ?_
  simp [effO]
  refine callW_ms [.ro] ?_
  simp [effR]
  refine callX_of (w15 b hb2) (by simp) ?_
  simp [effO]
  refine callW_ms [.ro, .ro] ?_
  simp
  refine callX_of hS (by simp [effR]) ?_
  simp [effO]
  refine callW_ms [.ro] ?_
  simp [effR]
  refine callX_of (w15 a ha2) (by simp) ?_
  simp [effO]
  refine callW_ms [.ro] ?_
  simp [effR]
  refine callX_of (w15 b hb2) (by simp) ?_
  simp [effO]
  refine callW_ms [.ro, .ro] ?_
  simp
  refine callX_of hI (by simp [effR]) ?_
  simp [effO]
  refine callW_ms [.ro, .ro] ?_
  simp [effR]
  refine callX_of (w17 w hj2) (by simp) ?_
  simp
  refine callW_ms [.ro] ?_
  simp [effR]
  refine callX_of (w15 a ha2) (by simp) ?_
  simp [effO]
  refine callW_ms [.ro, .ro] ?_
  simp [effR]
  refine callX_of (w17 a ha2) (by simp) ?_
  simp
  refine callW_ms [.ro] ?_
  simp [effR]
  refine callX_of (w15 b hb2) (by simp) ?_
  simp [effO]
  refine callW_ms [.ro, .ro] ?_
  simp [effR]
  refine callX_of (w17 b hb2) (by simp) ?_
  simp
  have hk1 : ¬ (1 + (nEf a : Int) + nEf b < 0) := by omega
  refine callW_ms [.own, .ro] ?_
  simp [effO]
  refine callX_of (w18 a 1 ha4 (by omega) (by omega)) (by simp) ?_
  simp
  refine callW_ms [.own, .ro] ?_
  simp [effO]
  refine callX_of (w18 b (1 + nEf a) hb4 (by omega) (by omega)) (by simp) ?_
  simp [hk1]
  refine callW_ms [.ro, .ro] ?_
  simp [effR]
  refine callX_of (w17 w hj2) (by simp) ?_
  simp
  refine callW_ms [.own, .ro] ?_
  simp [effO]
  refine callX_of (w18 w 1 hj3 (by omega) (by omega)) (by simp) ?_
  simp
  refine callW_ms [.ro, .ro] ?_
  simp [effR]
  refine callX_of (w19 w 1 hj3 (by omega) (by omega)) (by simp) ?_
  simp
  refine ⟨by omega, fun _ => ?_⟩
  refine callW_ms [.ro] ?_
  simp [effR]
  refine callX_of (w15 a ha2) (by simp) ?_
  simp [effO]
  refine callW_ms [.ro] ?_
  simp [effR]
  refine callX_of (w15 b hb2) (by simp) ?_
  simp [effO]
  refine callW_ms [.ro, .ro] ?_
  simp
  refine callX_of hI (by simp [effR]) ?_
  simp [effO]
  refine callW_ms [.ro, .ro] ?_
  simp [effR]
  refine callX_of (w17 w hj2) (by simp) ?_
  simp
  refine callW_ms [.ro, .ro] ?_
  simp [effR]
  refine callX_of (w19 w 1 hj3 (by omega) (by omega)) (by simp) ?_
  simp
  omega
end Go.Proofs.YtmedelmfkciblaaT

/- Floats by their bits. -/
namespace Go.Proofs.YtmedelmfkciblaaT
set_option linter.unusedVariables false
set_option linter.unusedSimpArgs false
open Go

def rg (x : Nat) : Nat := x % 9223372036854775808
def sg (x : Nat) : Bool := x / 9223372036854775808 % 2 == 1
theorem rs_inj {x y : Nat} (hx : x < 18446744073709551616) (hy : y < 18446744073709551616) (h1 : rg x = rg y) (h2 : sg x = sg y) : x = y := by
  unfold rg at h1; unfold sg at h2
  have : x / 9223372036854775808 % 2 = y / 9223372036854775808 % 2 := by
    rcases Nat.mod_two_eq_zero_or_one (x / 9223372036854775808) with h | h <;> rcases Nat.mod_two_eq_zero_or_one (y / 9223372036854775808) with h' | h' <;> simp [h, h'] at h2 ⊢
  omega
theorem order_none' (x : Nat) : FloatKind.f64.format.order x x = none ↔ isN x := order_none x
theorem read_cases (x : Nat) : isN x ∨ Ieee.double.read x = .infinity (sg x) ∧ rg x = 9218868437227405312 ∨
    ∃ m e : Nat, Ieee.double.read x = .number (sg x) m (-1074 + e) ∧ rg x = m + e * 4503599627370496 ∧ (m < 4503599627370496 ∧ e = 0 ∨ 4503599627370496 ≤ m ∧ m < 9007199254740992) ∧ rg x < 9218868437227405312 := by
  have e1 : Ieee.double.signWeight = 9223372036854775808 := rfl
  have e2 : Ieee.double.binade = 4503599627370496 := rfl
  have e3 : Ieee.double.infRung = 9218868437227405312 := rfl
  have e4 : Ieee.double.leastPlace = -1074 := rfl
  unfold isN
  simp only [Ieee.Format.read, e1, e2, e3, e4]
  rw [show (x / 9223372036854775808 % 2 == 1) = sg x from rfl, show x % 9223372036854775808 = rg x from rfl]
  generalize rg x = r
  by_cases h1 : r < 4503599627370496
  · right; right
    exact ⟨r, 0, by simp [h1], by omega, by omega, by omega⟩
  · by_cases h2 : r < 9218868437227405312
    · right; right
      refine ⟨4503599627370496 + r % 4503599627370496, r / 4503599627370496 - 1, by simp [h1, h2], by omega, by omega, h2⟩
    · by_cases h3 : r = 9218868437227405312
      · right; left; simp [h3]
      · left; simp [h1, h2, h3]
theorem signed_zero (s t : Bool) (a b k l : Nat) (h : Ieee.signed s a k = Ieee.signed t b l) : a * 2 ^ k = b * 2 ^ l ∧ (s = t ∨ a * 2 ^ k = 0) := by
  unfold Ieee.signed at h
  simp only [Nat.shiftLeft_eq] at h
  generalize a * 2 ^ k = u at *
  generalize b * 2 ^ l = v at *
  cases s <;> cases t <;> simp at h ⊢ <;> omega
theorem order_eq {x y : Nat} (h : FloatKind.f64.format.order x y = some .eq) : ¬ isN x ∧ ¬ isN y ∧ rg x = rg y ∧ (sg x = sg y ∨ rg x = 0) := by
  have h' : (Ieee.double.read x).order (Ieee.double.read y) = some .eq := h
  have nx : ¬ isN x := by rintro ⟨s, t, e⟩; rw [e] at h'; simp [Ieee.Datum.order] at h'
  have ny : ¬ isN y := by rintro ⟨s, t, e⟩; rw [e] at h'; cases hr : Ieee.double.read x <;> rw [hr] at h' <;> simp [Ieee.Datum.order] at h'
  refine ⟨nx, ny, ?_⟩
  rcases read_cases x with hx | ⟨hx, rx⟩ | ⟨m, e, hx, rx, cx, lx⟩
  · exact absurd hx nx
  · rcases read_cases y with hy | ⟨hy, ry⟩ | ⟨n, d, hy, ry, cy, ly⟩
    · exact absurd hy ny
    · rw [hx, hy] at h'
      refine ⟨by omega, .inl ?_⟩
      cases hs : sg x <;> cases ht : sg y <;> rw [hs, ht] at h' <;> first | rfl | (revert h'; decide)
    · rw [hx, hy] at h'; cases hs : sg x <;> rw [hs] at h' <;> simp [Ieee.Datum.order] at h'
  · rcases read_cases y with hy | ⟨hy, ry⟩ | ⟨n, d, hy, ry, cy, ly⟩
    · exact absurd hy ny
    · rw [hx, hy] at h'; cases hs : sg y <;> rw [hs] at h' <;> simp [Ieee.Datum.order] at h'
    · rw [hx, hy] at h'
      simp only [Ieee.Datum.order, Option.some.injEq] at h'
      have hc : Ieee.signed (sg x) m ((-1074 + (e : Int)) - min (-1074 + (e : Int)) (-1074 + (d : Int))).toNat = Ieee.signed (sg y) n ((-1074 + (d : Int)) - min (-1074 + (e : Int)) (-1074 + (d : Int))).toNat := by
        rw [Int.compare_eq_eq] at h'; exact h'
      obtain ⟨k1, k2⟩ := signed_zero _ _ _ _ _ _ hc
      have hp : ∀ k : Nat, 1 ≤ k → 2 ≤ 2 ^ k := fun k hk => by
        have := Nat.pow_le_pow_right (n := 2) (by omega) hk; simpa using this
      rcases Nat.lt_trichotomy e d with hed | hed | hed
      · exfalso
        rw [show ((-1074 + (e : Int)) - min (-1074 + (e : Int)) (-1074 + (d : Int))).toNat = 0 by omega] at k1
        have h2 := hp ((-1074 + (d : Int)) - min (-1074 + (e : Int)) (-1074 + (d : Int))).toNat (by omega)
        have := Nat.mul_le_mul_left n h2
        omega
      · subst hed
        rw [show ((-1074 + (e : Int)) - min (-1074 + (e : Int)) (-1074 + (e : Int))).toNat = 0 by omega] at k1 k2
        refine ⟨by omega, ?_⟩
        rcases k2 with k2 | k2
        · exact .inl k2
        · right; omega
      · exfalso
        rw [show ((-1074 + (d : Int)) - min (-1074 + (e : Int)) (-1074 + (d : Int))).toNat = 0 by omega] at k1
        have h2 := hp ((-1074 + (e : Int)) - min (-1074 + (e : Int)) (-1074 + (d : Int))).toNat (by omega)
        have := Nat.mul_le_mul_left m h2
        omega
/-- A float as the abstract machine tells it. -/
def fOk (x : Nat) : Prop := ∃ y, y < 18446744073709551616 ∧ x = canon y
theorem fOk_lt {x : Nat} (h : fOk x) : x < 18446744073709551616 := by
  obtain ⟨y, hy, rfl⟩ := h
  unfold canon; split <;> omega
theorem fOk_nan {x : Nat} (h : fOk x) (hn : isN x) : x = nanC := by
  obtain ⟨y, hy, rfl⟩ := h
  by_cases hy2 : isN y
  · exact canon_nan hy2
  · rw [canon_not hy2] at hn; exact absurd hn hy2
theorem feq_self {x : Nat} (hn : ¬ isN x) : FloatKind.f64.format.order x x = some .eq := by
  rcases h : FloatKind.f64.format.order x x with _ | o
  · exact absurd ((order_none x).1 h) hn
  · revert h
    simp only [FloatKind.format, Ieee.Format.order]
    cases Ieee.double.read x <;> simp [Ieee.Datum.order] <;> exact fun h => h.symm
noncomputable instance (x : Nat) : Decidable (isN x) := Classical.propDecidable _
/-- Whether one differs from itself. -/
theorem fne_self (x : Nat) : (FloatKind.f64.format.order x x != some .eq) = decide (isN x) := by
  by_cases h : isN x
  · simp [h, (order_none x).2 h]
  · simp [h, feq_self h]
/-- Equality of two that are told. -/
theorem feq_iff {x y : Nat} (hx : fOk x) (hy : fOk y) : FloatKind.f64.format.order x y = some .eq ↔ (¬ isN x ∧ x = y) ∨ rg x = 0 ∧ rg y = 0 := by
  constructor
  · intro h
    obtain ⟨h1, h2, h3, h4⟩ := order_eq h
    rcases h4 with h4 | h4
    · exact .inl ⟨h1, rs_inj (fOk_lt hx) (fOk_lt hy) h3 h4⟩
    · exact .inr ⟨h4, by omega⟩
  · rintro (⟨h1, rfl⟩ | ⟨h1, h2⟩)
    · exact feq_self h1
    · have hl := fOk_lt hx
      have hl2 := fOk_lt hy
      have z : ∀ a, a < 18446744073709551616 → rg a = 0 → a = 0 ∨ a = 9223372036854775808 := fun a ha h => by unfold rg at h; omega
      rcases z x hl h1 with rfl | rfl <;> rcases z y hl2 h2 with rfl | rfl <;> decide
theorem rg_zero {x : Nat} (hx : fOk x) : rg x = 0 ↔ x = 0 ∨ x = 9223372036854775808 := by
  have := fOk_lt hx
  unfold rg; omega
theorem fOk_zero : fOk 0 := ⟨0, by omega, by decide⟩
theorem fOk_mzero : fOk 9223372036854775808 := ⟨9223372036854775808, by omega, by decide⟩
theorem nN_zero : ¬ isN 0 := by rw [← order_none]; decide
theorem nN_mzero : ¬ isN 9223372036854775808 := by rw [← order_none]; decide
theorem feq_zero {x : Nat} (hx : fOk x) : FloatKind.f64.format.order x 0 = some .eq ↔ x = 0 ∨ x = 9223372036854775808 := by
  rw [feq_iff hx fOk_zero, ← rg_zero hx]
  constructor
  · rintro (⟨_, rfl⟩ | ⟨h, _⟩)
    · rfl
    · exact h
  · exact fun h => .inr ⟨h, rfl⟩
theorem inv_zero : fltArith .quo 4607182418800017408 0 = 9218868437227405312 := by decide +kernel
theorem inv_mzero : fltArith .quo 4607182418800017408 9223372036854775808 = 18442240474082181120 := by decide +kernel
theorem gt_inf : FloatKind.f64.format.order 9218868437227405312 0 = some .gt := by decide +kernel
theorem gt_minf : FloatKind.f64.format.order 18442240474082181120 0 = some .lt := by decide +kernel
theorem feqz {x : Nat} (hx : fOk x) : (FloatKind.f64.format.order x 0 == some .eq) = decide (x = 0 ∨ x = 9223372036854775808) := by
  have := feq_zero hx
  by_cases h : FloatKind.f64.format.order x 0 = some .eq
  · simp [h, this.1 h]
  · have h2 : ¬ (x = 0 ∨ x = 9223372036854775808) := fun h3 => h (this.2 h3)
    simp [h2]; exact h
theorem fnez {x : Nat} (hx : fOk x) : (FloatKind.f64.format.order x 0 != some .eq) = !decide (x = 0 ∨ x = 9223372036854775808) := by
  rw [← feqz hx]; rfl
theorem feqb {x y : Nat} (hx : fOk x) (hy : fOk y) : (FloatKind.f64.format.order x y == some .eq) = decide ((¬ isN x ∧ x = y) ∨ rg x = 0 ∧ rg y = 0) := by
  have := feq_iff hx hy
  by_cases h : FloatKind.f64.format.order x y = some .eq
  · simp only [h, this.1 h]; rfl
  · have h2 : ¬ ((¬ isN x ∧ x = y) ∨ rg x = 0 ∧ rg y = 0) := fun h3 => h (this.2 h3)
    rw [decide_eq_false h2]; simpa using h
theorem gt_infb : (FloatKind.f64.format.order 9218868437227405312 0 == some .gt) = true := by rw [gt_inf]; rfl
theorem gt_minfb : (FloatKind.f64.format.order 18442240474082181120 0 == some .gt) = false := by rw [gt_minf]; rfl
/-- The float of a whole number. -/
def flI (n : Int) : Nat := canon (FloatKind.f64.nearest n)
theorem nN_of_rg {w : Nat} (h : rg w ≤ 9218868437227405312) : ¬ isN w := fun hn => by
  have h1 := rung_of_isN hn
  unfold rg at h
  omega
theorem rg_word' (s : Bool) (r : Nat) (hr : r ≤ 9218868437227405312) : rg (Ieee.double.word s r) = r := by
  have e1 : Ieee.double.signWeight = 9223372036854775808 := rfl
  unfold Ieee.Format.word rg
  rw [e1]
  cases s <;> simp <;> omega
theorem nN_nearest (s : Bool) (m : Nat) (p : Int) : ¬ isN (Ieee.double.nearest s m p) := by
  have e3 : Ieee.double.infRung = 9218868437227405312 := rfl
  unfold Ieee.Format.nearest
  split
  · exact nN_of_rg (by rw [rg_word' _ _ (by omega)]; omega)
  · simp only [e3]
    generalize hq : min _ 9218868437227405312 = q
    have : q ≤ 9218868437227405312 := by rw [← hq]; exact Nat.min_le_right _ _
    exact nN_of_rg (by rw [rg_word' _ _ this]; exact this)
theorem nN_fl (n : Int) : ¬ isN (flI n) := by
  have h : ¬ isN (FloatKind.f64.nearest n) := nN_nearest _ _ _
  unfold flI; rw [canon_not h]; exact h
theorem flI_ne (n : Int) : (FloatKind.f64.format.order (flI n) (flI n) != some .eq) = false := by rw [fne_self]; simp [nN_fl]
end Go.Proofs.YtmedelmfkciblaaT
