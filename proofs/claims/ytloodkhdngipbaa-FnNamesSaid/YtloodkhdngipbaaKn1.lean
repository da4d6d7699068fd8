/- Draws of registers. -/
import Derived.Test.YtloodkhdngipbaaKr0
import Derived.Test.YtloodkhdngipbaaKh
namespace Go.Proofs.YtloodkhdngipbaaT
set_option linter.unusedVariables false
set_option linter.unusedSimpArgs false
open Go

/- spec.l3Std -/
def c139 : TCode := (.seq (.ops [⟨(some 0), 2, .box 3 (.c (.ag [(.sl true 2 []), (.sl true 2 []), (.sl true 2 [])])), none, []⟩])
  (.seq (.ops [⟨(some 1), 3, .build [(.s ⟨#[]⟩), (.i .i64 0)] [(0, 1, (.c (.s ⟨#[80, 111, 115]⟩))), (1, 1, (.c (.i .i64 3)))], none, []⟩, ⟨(some 2), 4, .build [(.s ⟨#[]⟩), (.i .i64 0)] [(0, 1, (.c (.s ⟨#[86, 101, 108]⟩))), (1, 1, (.c (.i .i64 3)))], none, []⟩, ⟨(some 3), 5, .build [(.s ⟨#[]⟩), (.i .i64 0)] [(0, 1, (.c (.s ⟨#[72, 112]⟩))), (1, 1, (.c (.i .i64 1)))], none, []⟩, ⟨(some 4), 6, .build [(.s ⟨#[]⟩), (.i .i64 0)] [(0, 1, (.c (.s ⟨#[77, 97, 115, 115]⟩))), (1, 1, (.c (.i .i64 2)))], none, []⟩, ⟨(some 5), 7, .build [(.s ⟨#[]⟩), (.i .i64 0)] [(0, 1, (.c (.s ⟨#[84, 97, 103]⟩))), (1, 1, (.c (.i .i64 4)))], none, []⟩, ⟨(some 6), 8, .bslice 2 5 [(.s ⟨#[]⟩), (.i .i64 0)] [(0, (.t 1)), (1, (.t 2)), (2, (.t 3)), (3, (.t 4)), (4, (.t 5))], none, []⟩, ⟨(some 7), 9, .build [(.s ⟨#[]⟩), (.i .i64 0)] [(0, 1, (.c (.s ⟨#[83, 99, 111, 114, 101]⟩))), (1, 1, (.c (.i .i64 1)))], none, []⟩, ⟨(some 8), 10, .build [(.s ⟨#[]⟩), (.i .i64 0)] [(0, 1, (.c (.s ⟨#[87, 105, 110, 100]⟩))), (1, 1, (.c (.i .i64 2)))], none, []⟩, ⟨(some 9), 11, .build [(.s ⟨#[]⟩), (.i .i64 0)] [(0, 1, (.c (.s ⟨#[70, 108, 111, 119]⟩))), (1, 1, (.c (.i .i64 3)))], none, []⟩, ⟨(some 10), 12, .build [(.s ⟨#[]⟩), (.i .i64 0)] [(0, 1, (.c (.s ⟨#[79, 112, 101, 110]⟩))), (1, 1, (.c (.i .i64 4)))], none, []⟩, ⟨(some 11), 13, .bslice 2 4 [(.s ⟨#[]⟩), (.i .i64 0)] [(0, (.t 7)), (1, (.t 8)), (2, (.t 9)), (3, (.t 10))], none, []⟩, ⟨(some 12), 14, .build [(.s ⟨#[]⟩), (.i .i64 0)] [(0, 1, (.c (.s ⟨#[72, 105, 116]⟩))), (1, 1, (.c (.i .i64 1)))], none, []⟩, ⟨(some 13), 15, .build [(.s ⟨#[]⟩), (.i .i64 0)] [(0, 1, (.c (.s ⟨#[80, 105, 110, 103]⟩))), (1, 1, (.c (.i .i64 2)))], none, []⟩, ⟨(some 14), 16, .bslice 2 2 [(.s ⟨#[]⟩), (.i .i64 0)] [(0, (.t 12)), (1, (.t 13))], none, []⟩, ⟨(some 15), 17, .build [(.sl true 2 []), (.sl true 2 []), (.sl true 2 [])] [(0, 1, (.t 6)), (1, 1, (.t 11)), (2, 1, (.t 14))], none, []⟩, ⟨none, 1001015, .store 3 (.t 0) (.t 15), none, []⟩])
  .ret))
theorem k139 : compCode Try.prog Try.f139.ntmps Try.f139.body.get! = some c139 := by kernel_rfl
theorem r139 : resTmps Try.prog Try.f139.results.toList = some [.cell 0 true 3] := by kernel_rfl
/- spec.l3Reg -/
def c99 : TCode := (.seq (.ops [⟨(some 2), 4, .box 3 (.c (.ag [(.sl true 2 []), (.sl true 2 []), (.sl true 2 [])])), none, []⟩])
  (.seq (.ops [⟨(some 6), 8, .call 139 [], none, []⟩, ⟨(some 3), 5, .box 3 (.c (.ag [(.sl true 2 []), (.sl true 2 []), (.sl true 2 [])])), none, []⟩, ⟨none, 1001002, .store 3 (.t 3) (.t 6), none, []⟩])
  (.seq (.seq (.ops [⟨(some 7), 9, .mv (.t 0), none, []⟩, ⟨(some 8), 10, .call 85 [((.t 7), 3), ((.c (.i .i64 10)), 0)], none, []⟩])
  (.block 0 (.seq (.ops [⟨(some 10), 12, .bin .eql (.t 8) (.c (.i .i64 0)), none, []⟩, ⟨(some 9), 11, .mv (.t 10), none, []⟩])
  (.cond (.t 9)
  (.seq (.ops [⟨(some 11), 13, .faddr 0 1 (.t 3), none, []⟩, ⟨(some 12), 14, .load false 1 (.t 11), none, []⟩, ⟨(some 13), 15, .slice false 2 (.t 12) none (some (.c (.i .i64 3))), none, []⟩, ⟨(some 14), 16, .faddr 0 1 (.t 3), none, []⟩, ⟨none, 1004004, .store 1 (.t 14) (.t 13), none, []⟩])
  (.ops [⟨(some 15), 17, .faddr 2 1 (.t 3), none, []⟩, ⟨none, 1005001, .store 1 (.t 15) (.c (.sl true 2 [])), none, []⟩]))
  (.seq (.ops [⟨(some 17), 19, .bin .eql (.t 8) (.c (.i .i64 1)), none, []⟩, ⟨(some 16), 18, .mv (.t 17), none, []⟩])
  (.cond (.t 16)
  (.draw [⟨(some 18), 20, .faddr 1 1 (.t 3), none, []⟩, ⟨(some 19), 21, .load false 1 (.t 18), none, []⟩, ⟨(some 20), 22, .mv (.t 0), none, []⟩, ⟨(some 21), 23, .call 85 [((.t 20), 3), ((.c (.i .i64 4)), 0)], none, [0, 1]⟩, ⟨(some 22), 24, .mv (.t 0), none, [3]⟩, ⟨(some 23), 25, .call 85 [((.t 22), 3), ((.c (.i .i64 4)), 0)], none, [0, 1]⟩, ⟨(some 24), 26, .bin .add (.c (.i .i64 1)) (.t 23), none, []⟩, ⟨(some 25), 27, .iaddr 2 (.t 19) (.t 21), none, []⟩, ⟨(some 26), 28, .faddr 1 1 (.t 25), none, []⟩, ⟨none, 1007009, .store 1 (.t 26) (.t 24), none, []⟩])
  (.seq (.ops [⟨(some 28), 30, .bin .eql (.t 8) (.c (.i .i64 2)), none, []⟩, ⟨(some 27), 29, .mv (.t 28), none, []⟩])
  (.cond (.t 27)
  (.seq (.ops [⟨(some 29), 31, .mv (.t 0), none, []⟩, ⟨(some 30), 32, .call 85 [((.t 29), 3), ((.c (.i .i64 5)), 0)], none, []⟩])
  (.block 1 (.seq (.ops [⟨(some 36), 38, .bin .eql (.t 30) (.c (.i .i64 0)), none, []⟩, ⟨(some 35), 37, .mv (.t 36), none, []⟩])
  (.cond (.t 35)
  (.ops [⟨(some 37), 39, .faddr 0 1 (.t 3), none, []⟩, ⟨(some 38), 40, .load false 1 (.t 37), none, []⟩, ⟨(some 39), 41, .iaddr 2 (.t 38) (.c (.i .i64 1)), none, []⟩, ⟨(some 40), 42, .faddr 0 1 (.t 39), none, []⟩, ⟨none, 1012004, .store 1 (.t 40) (.c (.s ⟨#[80, 111, 115]⟩)), none, []⟩])
  (.seq (.ops [⟨(some 42), 44, .bin .eql (.t 30) (.c (.i .i64 1)), none, []⟩, ⟨(some 41), 43, .mv (.t 42), none, []⟩])
  (.cond (.t 41)
  (.draw [⟨(some 43), 45, .faddr 2 1 (.t 3), none, []⟩, ⟨(some 44), 46, .load false 1 (.t 43), none, []⟩, ⟨(some 45), 47, .mv (.t 0), none, []⟩, ⟨(some 46), 48, .bslice 1 2 [(.i .i64 0)] [(0, (.c (.i .i64 0))), (1, (.c (.i .i64 5)))], none, [0, 1, 2]⟩, ⟨(some 47), 49, .call 87 [((.t 45), 3), ((.t 46), 0)], none, [0, 1]⟩, ⟨(some 48), 50, .iaddr 2 (.t 44) (.c (.i .i64 0)), none, []⟩, ⟨(some 49), 51, .faddr 1 1 (.t 48), none, []⟩, ⟨none, 1014007, .store 1 (.t 49) (.t 47), none, []⟩])
  (.seq (.ops [⟨(some 51), 53, .bin .eql (.t 30) (.c (.i .i64 2)), none, []⟩, ⟨(some 50), 52, .mv (.t 51), none, []⟩])
  (.cond (.t 50)
  (.draw [⟨(some 52), 54, .faddr 1 1 (.t 3), none, []⟩, ⟨(some 53), 55, .load false 1 (.t 52), none, []⟩, ⟨(some 54), 56, .mv (.t 0), none, []⟩, ⟨(some 55), 57, .bslice 1 4 [(.s ⟨#[]⟩)] [(0, (.c (.s ⟨#[]⟩))), (1, (.c (.s ⟨#[97, 98, 99, 100, 101, 102, 103, 104, 105, 106, 107, 108, 109]⟩))), (2, (.c (.s ⟨#[97, 49]⟩))), (3, (.c (.s ⟨#[108, 101, 116]⟩)))], none, [0, 1, 2]⟩, ⟨(some 56), 58, .call 140 [((.t 54), 3), ((.t 55), 0)], none, [0, 1]⟩, ⟨(some 57), 59, .iaddr 2 (.t 53) (.c (.i .i64 0)), none, []⟩, ⟨(some 58), 60, .faddr 0 1 (.t 57), none, []⟩, ⟨none, 1016007, .store 1 (.t 58) (.t 56), none, []⟩])
  (.seq (.ops [⟨(some 60), 62, .bin .eql (.t 30) (.c (.i .i64 3)), none, []⟩, ⟨(some 59), 61, .mv (.t 60), none, []⟩])
  (.cond (.t 59)
  (.seq (.ops [⟨(some 4), 6, .mv (.c (.i .i64 0)), none, []⟩])
  (.block 2 (.loop (.seq (.seq (.ops [⟨(some 61), 63, .mv (.t 4), none, []⟩, ⟨(some 62), 64, .bin .lss (.t 61) (.c (.i .i64 8)), none, []⟩])
  (.cond (.t 62)
  .skip
  (.exit 2)))
  (.seq (.block 3 (.ops [⟨(some 65), 67, .faddr 0 1 (.t 3), none, []⟩, ⟨(some 66), 68, .load false 1 (.t 65), none, []⟩, ⟨(some 67), 69, .mv (.t 4), none, []⟩, ⟨(some 68), 70, .bin .add (.c (.i .i64 97)) (.t 67), none, []⟩, ⟨(some 69), 71, .toInt .u8 (.t 68), none, []⟩, ⟨(some 70), 72, .bslice 1 1 [(.i .u8 0)] [(0, (.t 69))], none, []⟩, ⟨(some 71), 73, .toS (.t 70), none, []⟩, ⟨(some 72), 74, .bin .add (.c (.s ⟨#[88]⟩)) (.t 71), none, []⟩, ⟨(some 73), 75, .build [(.s ⟨#[]⟩), (.i .i64 0)] [(0, 1, (.t 72)), (1, 1, (.c (.i .i64 1)))], none, []⟩, ⟨(some 74), 76, .bslice 2 1 [(.s ⟨#[]⟩), (.i .i64 0)] [(0, (.t 73))], none, []⟩, ⟨(some 75), 77, .app 2 24 (.t 66) (.t 74), none, []⟩, ⟨(some 76), 78, .faddr 0 1 (.t 3), none, []⟩, ⟨none, 1021012, .store 1 (.t 76) (.t 75), none, []⟩]))
  (.ops [⟨(some 63), 65, .mv (.t 4), none, []⟩, ⟨(some 64), 66, .bin .add (.t 63) (.c (.i .i64 1)), none, []⟩, ⟨(some 4), 6, .mv (.t 64), none, []⟩]))))))
  (.ops [⟨(some 31), 33, .faddr 2 1 (.t 3), none, []⟩, ⟨(some 32), 34, .load false 1 (.t 31), none, []⟩, ⟨(some 33), 35, .iaddr 2 (.t 32) (.c (.i .i64 1)), none, []⟩, ⟨(some 34), 36, .faddr 0 1 (.t 33), none, []⟩, ⟨none, 1010004, .store 1 (.t 34) (.c (.s ⟨#[87, 105, 110, 100]⟩)), none, []⟩])))))))))))
  (.seq (.ops [⟨(some 78), 80, .bin .eql (.t 8) (.c (.i .i64 3)), none, []⟩, ⟨(some 77), 79, .mv (.t 78), none, []⟩])
  (.cond (.t 77)
  (.seq (.ops [⟨(some 5), 7, .mv (.c (.i .i64 0)), none, []⟩])
  (.block 4 (.loop (.seq (.seq (.ops [⟨(some 79), 81, .mv (.t 5), none, []⟩, ⟨(some 80), 82, .bin .lss (.t 79) (.c (.i .i64 7)), none, []⟩])
  (.cond (.t 80)
  .skip
  (.exit 4)))
  (.seq (.block 5 (.ops [⟨(some 83), 85, .faddr 0 1 (.t 3), none, []⟩, ⟨(some 84), 86, .load false 1 (.t 83), none, []⟩, ⟨(some 85), 87, .mv (.t 5), none, []⟩, ⟨(some 86), 88, .bin .add (.c (.i .i64 97)) (.t 85), none, []⟩, ⟨(some 87), 89, .toInt .u8 (.t 86), none, []⟩, ⟨(some 88), 90, .bslice 1 1 [(.i .u8 0)] [(0, (.t 87))], none, []⟩, ⟨(some 89), 91, .toS (.t 88), none, []⟩, ⟨(some 90), 92, .bin .add (.c (.s ⟨#[88]⟩)) (.t 89), none, []⟩, ⟨(some 91), 93, .mv (.t 5), none, []⟩, ⟨(some 92), 94, .bin .rem (.t 91) (.c (.i .i64 4)), none, []⟩, ⟨(some 93), 95, .bin .add (.c (.i .i64 1)) (.t 92), none, []⟩, ⟨(some 94), 96, .build [(.s ⟨#[]⟩), (.i .i64 0)] [(0, 1, (.t 90)), (1, 1, (.t 93))], none, []⟩, ⟨(some 95), 97, .bslice 2 1 [(.s ⟨#[]⟩), (.i .i64 0)] [(0, (.t 94))], none, []⟩, ⟨(some 96), 98, .app 2 24 (.t 84) (.t 95), none, []⟩, ⟨(some 97), 99, .faddr 0 1 (.t 3), none, []⟩, ⟨none, 1026015, .store 1 (.t 97) (.t 96), none, []⟩]))
  (.ops [⟨(some 81), 83, .mv (.t 5), none, []⟩, ⟨(some 82), 84, .bin .add (.t 81) (.c (.i .i64 1)), none, []⟩, ⟨(some 5), 7, .mv (.t 82), none, []⟩]))))))
  .skip))))))))))
  (.seq (.ops [⟨(some 98), 100, .load true 3 (.t 3), none, []⟩, ⟨none, 1027001, .store 3 (.t 2) (.t 98), none, []⟩])
  .ret))))
theorem k99 : compCode Try.prog Try.f99.ntmps Try.f99.body.get! = some c99 := by kernel_rfl
theorem r99 : resTmps Try.prog Try.f99.results.toList = some [.cell 2 true 3] := by kernel_rfl
/- spec.DrawRegOk -/
def c48 : TCode := (.seq (.ops [⟨(some 2), 4, .box 3 (.c (.ag [(.sl true 2 []), (.sl true 2 []), (.sl true 2 [])])), none, []⟩])
  (.seq (.ops [⟨(some 4), 6, .mv (.t 0), none, []⟩, ⟨(some 5), 7, .call 83 [((.t 4), 0)], none, []⟩, ⟨(some 3), 5, .mv (.t 5), none, []⟩])
  (.seq (.ops [⟨(some 6), 8, .mv (.t 3), none, []⟩, ⟨(some 7), 9, .call 99 [((.t 6), 3)], none, []⟩, ⟨none, 1002002, .store 3 (.t 2) (.t 7), none, []⟩])
  .ret)))
theorem k48 : compCode Try.prog Try.f48.ntmps Try.f48.body.get! = some c48 := by kernel_rfl
theorem r48 : resTmps Try.prog Try.f48.results.toList = some [.cell 2 true 3] := by kernel_rfl

theorem w140 (bs : List Int) (L : List ByteArray) (i : Nat) (h : Int) (hb : bs.length ≤ 2^40) (hi : i ≤ bs.length) (hL : 0 < L.length) (hL2 : L.length ≤ 256) : ∃ x : Nat × Int × ByteArray, (x.1 ≤ bs.length ∧ x.2.2 ∈ L) ∧ Contract Try.prog true 140 [.own, .own] [curT bs i h, .sl true 1 (L.map sT)] [.s x.2.2] [some (curT bs x.1 x.2.1), none] := by
  refine mk_contractE [some [(1, 0)], none] Try.func140 (c := Try.f140.body.get!) (by kernel_rfl) k140 r140 (of_decide_eq_true rfl) ?_
  unfold c140; unfold curT; simp
  obtain ⟨⟨i1, h1, y⟩, ⟨a1, a2, a3⟩, hC⟩ := w85 bs i h L.length hb hi
  simp only at a1 a2 a3 hC
  unfold curT at hC
  have hy := a3 (by omega)
  obtain ⟨z, hz⟩ : ∃ z, L[y.toNat]? = some z := get_some (by omega)
  refine callW_ms [.own, .ro] ?_
  simp
  refine callX_of hC (by simp) ?_
  simp [hz, a2]
  refine ⟨hy, exK_of (i1, h1, z) ⟨a1, List.mem_of_getElem? hz⟩ ?_⟩
  simp
abbrev DcP := List (ByteArray × Int)
def smallD (l : DcP) : Prop := l.length ≤ 20 ∧ ∀ d ∈ l, d.1.size ≤ 100
theorem small_nil : smallD [] := ⟨by simp, fun d h => by cases h⟩
theorem small_take {l : DcP} (h : smallD l) (k : Nat) : smallD (l.take k) := ⟨by have := h.1; simp; omega, fun d hd => h.2 d (List.mem_of_mem_take hd)⟩
theorem small_set {l : DcP} (h : smallD l) (k : Nat) {d : ByteArray × Int} (hd : d.1.size ≤ 100) : smallD (l.set k d) := ⟨by have := h.1; simp; omega, fun x hx => by
  rcases List.mem_or_eq_of_mem_set hx with hx | rfl
  · exact h.2 x hx
  · exact hd⟩
theorem small_snoc {l : DcP} (h : smallD l) (h2 : l.length < 20) {d : ByteArray × Int} (hd : d.1.size ≤ 100) : smallD (l ++ [d]) := ⟨by simp; omega, fun x hx => by
  rcases List.mem_append.1 hx with hx | hx
  · exact h.2 x hx
  · rw [List.mem_singleton.1 hx]; exact hd⟩
theorem dT_kind (v : Int) : ∀ (r : DcP) (k : Nat), ((List.map dT r).modify k fun e => e.modify 1 fun x => TV.i .i64 v) = List.map dT (r.modify k fun d => (d.1, v))
  | [], k => by simp
  | d :: r, 0 => by simp
  | d :: r, k + 1 => by simpa using dT_kind v r k
theorem dT_name (s : ByteArray) : ∀ (r : DcP) (k : Nat), ((List.map dT r).modify k fun e => e.modify 0 fun x => TV.s s) = List.map dT (r.modify k fun d => (s, d.2))
  | [], k => by simp
  | d :: r, 0 => by simp
  | d :: r, k + 1 => by simpa using dT_name s r k
theorem small_mod {f : ByteArray × Int → ByteArray × Int} (hf : ∀ d : ByteArray × Int, d.1.size ≤ 100 → (f d).1.size ≤ 100) : ∀ {l : DcP} (k : Nat), smallD l → smallD (l.modify k f)
  | l, k, h => ⟨by have := h.1; simp; omega, fun x hx => by
      obtain ⟨j, hj⟩ := List.mem_iff_getElem?.1 hx
      rw [List.getElem?_modify] at hj
      obtain ⟨y, hy, rfl⟩ := Option.map_eq_some_iff.1 hj
      have := h.2 y (List.mem_of_getElem? hy)
      split
      · exact hf y this
      · exact this⟩
theorem xs_size (b : UInt8) : (⟨#[88]⟩ : ByteArray).size + (⟨#[b]⟩ : ByteArray).size = 2 := rfl
theorem xa_size (b : UInt8) : ((⟨#[88]⟩ : ByteArray) ++ ⟨#[b]⟩).size ≤ 100 := by rw [ByteArray.size_append, xs_size]; omega
set_option maxRecDepth 100000 in
theorem w139  : ∃ x : DcP × DcP × DcP, ((x.1.length = 5 ∧ x.2.1.length = 4 ∧ x.2.2.length = 2) ∧ smallD x.1 ∧ smallD x.2.1 ∧ smallD x.2.2) ∧ Contract Try.prog false 139 [] [] [regO x.1 x.2.1 x.2.2] [] := by
  refine mk_contractE [] Try.func139 (c := Try.f139.body.get!) (by kernel_rfl) k139 r139 (of_decide_eq_true rfl) ?_
  unfold c139; unfold regO; simp
  refine exK_of ([(⟨#[80, 111, 115]⟩, 3), (⟨#[86, 101, 108]⟩, 3), (⟨#[72, 112]⟩, 1), (⟨#[77, 97, 115, 115]⟩, 2), (⟨#[84, 97, 103]⟩, 4)], [(⟨#[83, 99, 111, 114, 101]⟩, 1), (⟨#[87, 105, 110, 100]⟩, 2), (⟨#[70, 108, 111, 119]⟩, 3), (⟨#[79, 112, 101, 110]⟩, 4)], [(⟨#[72, 105, 116]⟩, 1), (⟨#[80, 105, 110, 103]⟩, 2)]) ⟨⟨rfl, rfl, rfl⟩, ⟨by decide, by decide⟩, ⟨by decide, by decide⟩, ⟨by decide, by decide⟩⟩ ?_
  simp
set_option maxRecDepth 100000 in
theorem w99 (bs : List Int) (i0 : Nat) (h0 : Int) (hb : bs.length ≤ 2^40) (hi0 : i0 ≤ bs.length) : ∃ x : Nat × Int × DcP × DcP × DcP, (x.1 ≤ bs.length ∧ smallD x.2.2.1 ∧ smallD x.2.2.2.1 ∧ smallD x.2.2.2.2) ∧ Contract Try.prog true 99 [.own] [curT bs i0 h0] [regO x.2.2.1 x.2.2.2.1 x.2.2.2.2] [some (curT bs x.1 x.2.1)] := by
  refine mk_contractE [some [(1, 0)]] Try.func99 (c := Try.f99.body.get!) (by kernel_rfl) k99 r99 (of_decide_eq_true rfl) ?_
  unfold c99; unfold curT regO; simp
  obtain ⟨⟨c, r, e⟩, ⟨⟨l1, l2, l3⟩, s1, s2, s3⟩, hC0⟩ := w139
  simp only at l1 l2 l3 s1 s2 s3 hC0
  unfold regO at hC0
  refine callW_ms [] ?_
  simp
  refine callX_of hC0 (by simp) ?_
  simp
  obtain ⟨⟨i1, h1, y1⟩, ⟨a1, b1, c1⟩, hC1⟩ := w85 bs i0 h0 10 hb hi0
  simp only at a1 b1 c1 hC1
  unfold curT at hC1
  refine callW_ms [.own, .ro] ?_
  simp
  refine callX_of hC1 (by simp) ?_
  simp [l1, l2, l3]
  refine ⟨fun h => ?_, fun h => ?_⟩
  · refine exK_of (i1, h1, c.take 3, r, []) ⟨a1, small_take s1 3, s2, small_nil⟩ ?_
    simp [offE]
  refine ⟨fun h => ?_, fun h => ?_⟩
  · obtain ⟨⟨i2, h2, y2⟩, ⟨a2, b2, c2⟩, hC2⟩ := w85 bs i1 h1 4 hb a1
    simp only at a2 b2 c2 hC2
    unfold curT at hC2
    refine callW_ms [.own, .ro] ?_
    simp
    refine callX_of hC2 (by simp) ?_
    simp
    obtain ⟨⟨i3, h3, y3⟩, ⟨a3, b3, c3⟩, hC3⟩ := w85 bs i2 h2 4 hb a2
    simp only at a3 b3 c3 hC3
    unfold curT at hC3
    refine callW_ms [.own, .ro] ?_
    simp
    refine callX_of hC3 (by simp) ?_
    simp
    have hy := c2 (by omega)
    obtain ⟨d, hd⟩ : ∃ d, r[y2.toNat]? = some d := get_some (by omega)
    simp [hd, b2, dT_kind]
    refine ⟨hy, exK_of (i3, h3, c, r.modify y2.toNat (fun d => (d.1, IntKind.i64.wrap (1 + y3))), e) ⟨a3, s1, small_mod (f := fun d => (d.1, IntKind.i64.wrap (1 + y3))) (fun d h => h) _ s2, s3⟩ ?_⟩
    simp
  refine ⟨fun h => ?_, fun h => ?_⟩
  · obtain ⟨⟨i2, h2, y2⟩, ⟨a2, b2, c2⟩, hC2⟩ := w85 bs i1 h1 5 hb a1
    simp only at a2 b2 c2 hC2
    unfold curT at hC2
    refine callW_ms [.own, .ro] ?_
    simp
    refine callX_of hC2 (by simp) ?_
    simp
    refine ⟨fun h => ?_, fun h => ?_⟩
    · obtain ⟨d, hd⟩ : ∃ d, c[1]? = some d := get_some (by omega)
      simp [hd, l1, dT_name]
      refine exK_of (i2, h2, c.modify 1 (fun d => (⟨#[80, 111, 115]⟩, d.2)), r, e) ⟨a2, small_mod (f := fun d => (⟨#[80, 111, 115]⟩, d.2)) (fun d h => (by decide : (⟨#[80, 111, 115]⟩ : ByteArray).size ≤ 100)) _ s1, s2, s3⟩ ?_
      simp
    refine ⟨fun h => ?_, fun h => ?_⟩
    · obtain ⟨⟨i3, h3, y3⟩, ⟨a3, b3⟩, hC3⟩ := w87 bs [0, 5] i2 h2 hb a2 (by simp) (by simp)
      simp only at a3 b3 hC3
      unfold curT at hC3
      refine callW_ms [.own, .own] ?_
      simp
      refine callX_of hC3 (by simp) ?_
      obtain ⟨d, hd⟩ : ∃ d, e[0]? = some d := get_some (by omega)
      simp [hd, l3, dT_kind]
      refine exK_of (i3, h3, c, r, e.modify 0 (fun d => (d.1, y3))) ⟨a3, s1, s2, small_mod (f := fun d => (d.1, y3)) (fun d h => h) _ s3⟩ ?_
      simp
    refine ⟨fun h => ?_, fun h => ?_⟩
    · obtain ⟨⟨i3, h3, y3⟩, ⟨a3, b3⟩, hC3⟩ := w140 bs [⟨#[]⟩, ⟨#[97, 98, 99, 100, 101, 102, 103, 104, 105, 106, 107, 108, 109]⟩, ⟨#[97, 49]⟩, ⟨#[108, 101, 116]⟩] i2 h2 hb a2 (by simp) (by simp)
      simp only at a3 b3 hC3
      unfold curT at hC3
      refine callW_ms [.own, .own] ?_
      simp
      refine callX_of hC3 (by simp) ?_
      obtain ⟨d, hd⟩ : ∃ d, r[0]? = some d := get_some (by omega)
      simp [hd, l2, dT_name]
      refine exK_of (i3, h3, c, r.modify 0 (fun d => (y3, d.2)), e) ⟨a3, s1, small_mod (fun d h => (by decide : ∀ s ∈ ([⟨#[]⟩, ⟨#[97, 98, 99, 100, 101, 102, 103, 104, 105, 106, 107, 108, 109]⟩, ⟨#[97, 49]⟩, ⟨#[108, 101, 116]⟩] : List ByteArray), s.size ≤ 100) _ b3) _ s2, s3⟩ ?_
      simp
    refine ⟨fun h => ?_, fun h => ?_⟩
    · refine twp_for 8 (fun j s => ∃ (L : DcP), smallD L ∧ L.length = 5 + j ∧ s.t 0 = .pt [(1, 0)] 0 0 ∧ s.t 2 = .pt [(4, 0)] 0 0 ∧ s.t 3 = .pt [(5, 0)] 0 0 ∧ s.t 4 = .i .i64 j ∧ s.H = lk [(1, [.po true [.sl false 1 (bs.map uT), .i .i64 i2, .i .i64 h2]]), (4, [.po true [.sl true 2 [], .sl true 2 [], .sl true 2 []]]), (5, [.po true [.sl true 2 (L.map dT), .sl true 2 (r.map dT), .sl true 2 (e.map dT)]])]) [8, 72, 76, 77] (by simp) ?_ ?_
      · refine ⟨c, s1, by omega, ?_⟩
        simp
      · rintro j s hj ⟨L, hL, hLl, q0, q2, q3, q4, qH⟩
        rw [nf_of qH]
        simp [q0, q2, q3, q4]
        refine ⟨fun hlt => ?_, fun hge => ?_⟩
        · have hw : IntKind.i64.wrap ((j : Int) + 1) = j + 1 := wrap_id (by omega) (by omega)
          simp [elemsOf, bytesT, q0, q2, q3, q4, hw]
          refine ⟨by rw [xs_size]; omega, by omega, by omega, L ++ [(⟨#[88]⟩ ++ ⟨#[UInt8.ofNat (IntKind.u8.wrap (IntKind.i64.wrap (97 + (j : Int)))).toNat]⟩, 1)], small_snoc hL (by omega) (xa_size _), by simp; omega, by simp⟩
        · refine exK_of (i2, h2, L, r, e) ⟨a2, hL, s2, s3⟩ ?_
          simp [q0, q2, q3]
    · obtain ⟨d, hd⟩ : ∃ d, e[1]? = some d := get_some (by omega)
      simp [hd, l3, dT_name]
      refine exK_of (i2, h2, c, r, e.modify 1 (fun d => (⟨#[87, 105, 110, 100]⟩, d.2))) ⟨a2, s1, s2, small_mod (f := fun d => (⟨#[87, 105, 110, 100]⟩, d.2)) (fun d h => (by decide : (⟨#[87, 105, 110, 100]⟩ : ByteArray).size ≤ 100)) _ s3⟩ ?_
      simp
  refine ⟨fun h => ?_, fun h => ?_⟩
  · refine twp_for 7 (fun j s => ∃ (L : DcP), smallD L ∧ L.length = 5 + j ∧ s.t 0 = .pt [(1, 0)] 0 0 ∧ s.t 2 = .pt [(4, 0)] 0 0 ∧ s.t 3 = .pt [(5, 0)] 0 0 ∧ s.t 5 = .i .i64 j ∧ s.H = lk [(1, [.po true [.sl false 1 (bs.map uT), .i .i64 i1, .i .i64 h1]]), (4, [.po true [.sl true 2 [], .sl true 2 [], .sl true 2 []]]), (5, [.po true [.sl true 2 (L.map dT), .sl true 2 (r.map dT), .sl true 2 (e.map dT)]])]) [8, 90, 97, 98] (by simp) ?_ ?_
    · refine ⟨c, s1, by omega, ?_⟩
      simp
    · rintro j s hj ⟨L, hL, hLl, q0, q2, q3, q5, qH⟩
      rw [nf_of qH]
      simp [q0, q2, q3, q5]
      refine ⟨fun hlt => ?_, fun hge => ?_⟩
      · have hw : IntKind.i64.wrap ((j : Int) + 1) = j + 1 := wrap_id (by omega) (by omega)
        simp [elemsOf, bytesT, q0, q2, q3, q5, hw]
        refine ⟨by rw [xs_size]; omega, by omega, by omega, L ++ [(⟨#[88]⟩ ++ ⟨#[UInt8.ofNat (IntKind.u8.wrap (IntKind.i64.wrap (97 + (j : Int)))).toNat]⟩, IntKind.i64.wrap (1 + (j : Int).tmod 4))], small_snoc hL (by omega) (xa_size _), by simp; omega, by simp⟩
      · refine exK_of (i1, h1, L, r, e) ⟨a1, hL, s2, s3⟩ ?_
        simp [q0, q2, q3]
  · refine exK_of (i1, h1, c, r, e) ⟨a1, s1, s2, s3⟩ ?_
    simp
set_option maxRecDepth 100000 in
theorem w48 (bs : List Int) (hb : bs.length ≤ 2^40) : ∃ x : DcP × DcP × DcP, (smallD x.1 ∧ smallD x.2.1 ∧ smallD x.2.2) ∧ Contract Try.prog false 48 [.ro] [.sl false 1 (bs.map uT)] [regO x.1 x.2.1 x.2.2] [] := by
  refine mk_contractE [] Try.func48 (c := Try.f48.body.get!) (by kernel_rfl) k48 r48 (of_decide_eq_true rfl) ?_
  unfold c48; unfold regO; simp
  obtain ⟨h0, -, hC0⟩ := w83 bs hb
  unfold curT at hC0
  refine callW_ms [.ro] ?_
  simp
  refine callX_of hC0 (by simp) ?_
  simp
  obtain ⟨⟨i1, h1, c, r, e⟩, ⟨a1, s1, s2, s3⟩, hC1⟩ := w99 bs 0 h0 hb (by omega)
  simp only at a1 s1 s2 s3 hC1
  unfold curT regO at hC1
  refine callW_ms [.own] ?_
  simp
  refine callX_of hC1 (by simp) ?_
  simp
  refine exK_of (c, r, e) ⟨s1, s2, s3⟩ ?_
  simp
end Go.Proofs.YtloodkhdngipbaaT
