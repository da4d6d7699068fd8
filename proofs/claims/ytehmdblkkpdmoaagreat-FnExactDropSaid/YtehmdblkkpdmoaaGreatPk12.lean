/- Texts of this session's own, one behind the other: Ksp, Kh, Kz1, Ki, Kx2, Kw2, Kt1, Kz2, Kz3, Kz4, Kz5, Kz6, Kx4, Kx6, Ku3, Ky1, Ku6, Ku7, Ku8, Ku9, Kt2, Kt3, Kt4, Ku4, Ku5, Kt5. -/
import Derived.Test.YtehmdblkkpdmoaaGreatPk11
import Derived.Lib.SlicesCompact
namespace Go.Proofs.YtehmdblkkpdmoaaGreatT
set_option linter.unusedVariables false
set_option linter.unusedSimpArgs false
open Go
def ris (l : List Int) : Prop := l.Pairwise (· < ·)
end Go.Proofs.YtehmdblkkpdmoaaGreatT


namespace Go.Proofs.YtehmdblkkpdmoaaGreatT
set_option linter.unusedVariables false
set_option linter.unusedSimpArgs false
open Go
def c59 : TCode := (.seq (.ops [⟨(some 1), 3, .box 3 (.t 0), none, []⟩, ⟨(some 2), 4, .mv (.c (.b false)), none, []⟩])
  (.seq (.seq (.ops [⟨(some 6), 8, .faddr 0 1 (.t 1), none, []⟩, ⟨(some 7), 9, .load false 1 (.t 6), none, []⟩, ⟨(some 8), 10, .len false (.t 7), none, []⟩, ⟨(some 9), 11, .bin .gtr (.t 8) (.c (.i .i64 12)), none, []⟩, ⟨(some 10), 12, .mv (.t 9), none, []⟩, ⟨(some 11), 13, .faddr 1 1 (.t 1), (some (10, false)), []⟩, ⟨(some 12), 14, .load false 1 (.t 11), (some (10, false)), []⟩, ⟨(some 13), 15, .len false (.t 12), (some (10, false)), []⟩, ⟨(some 14), 16, .bin .gtr (.t 13) (.c (.i .i64 12)), (some (10, false)), []⟩, ⟨(some 15), 17, .pick (.t 10) (.c (.b true)) (.t 14), none, []⟩, ⟨(some 16), 18, .mv (.t 15), none, []⟩, ⟨(some 17), 19, .faddr 2 1 (.t 1), (some (16, false)), []⟩, ⟨(some 18), 20, .load false 1 (.t 17), (some (16, false)), []⟩, ⟨(some 19), 21, .len false (.t 18), (some (16, false)), []⟩, ⟨(some 20), 22, .bin .gtr (.t 19) (.c (.i .i64 12)), (some (16, false)), []⟩, ⟨(some 21), 23, .pick (.t 16) (.c (.b true)) (.t 20), none, []⟩])
  (.cond (.t 21)
  (.seq (.ops [⟨(some 2), 4, .mv (.c (.b false)), none, []⟩])
  .ret)
  .skip))
  (.seq (.draw [⟨(some 22), 24, .bslice 2 0 [(.s ⟨#[]⟩), (.i .i64 0)] [], none, []⟩, ⟨(some 23), 25, .faddr 0 1 (.t 1), none, [0]⟩, ⟨(some 24), 26, .load false 1 (.t 23), none, [0]⟩, ⟨(some 25), 27, .app 2 24 (.t 22) (.t 24), none, []⟩, ⟨(some 26), 28, .faddr 1 1 (.t 1), none, [0, 3]⟩, ⟨(some 27), 29, .load false 1 (.t 26), none, [0, 3]⟩, ⟨(some 28), 30, .app 2 24 (.t 25) (.t 27), none, []⟩, ⟨(some 29), 31, .faddr 2 1 (.t 1), none, [0, 3, 6]⟩, ⟨(some 30), 32, .load false 1 (.t 29), none, [0, 3, 6]⟩, ⟨(some 31), 33, .app 2 24 (.t 28) (.t 30), none, []⟩, ⟨(some 3), 5, .mv (.t 31), none, []⟩])
  (.seq (.seq (.ops [⟨(some 4), 6, .mv (.c (.i .i64 0)), none, []⟩])
  (.block 0 (.loop (.seq (.seq (.ops [⟨(some 32), 34, .mv (.t 4), none, []⟩, ⟨(some 33), 35, .mv (.t 3), none, []⟩, ⟨(some 34), 36, .len false (.t 33), none, []⟩, ⟨(some 35), 37, .bin .lss (.t 32) (.t 34), none, []⟩])
  (.cond (.t 35)
  .skip
  (.exit 0)))
  (.seq (.block 1 (.seq (.seq (.ops [⟨(some 38), 40, .mv (.t 3), none, []⟩, ⟨(some 39), 41, .mv (.t 4), none, []⟩, ⟨(some 40), 42, .iaddr 2 (.t 38) (.t 39), none, []⟩, ⟨(some 41), 43, .faddr 0 1 (.t 40), none, []⟩, ⟨(some 42), 44, .load false 1 (.t 41), none, []⟩, ⟨(some 43), 45, .call 108 [((.t 42), 0)], none, []⟩, ⟨(some 44), 46, .un .not (.t 43), none, []⟩, ⟨(some 45), 47, .mv (.t 44), none, []⟩, ⟨(some 46), 48, .mv (.t 3), (some (45, false)), []⟩, ⟨(some 47), 49, .mv (.t 4), (some (45, false)), []⟩, ⟨(some 48), 50, .iaddr 2 (.t 46) (.t 47), (some (45, false)), []⟩, ⟨(some 49), 51, .faddr 1 1 (.t 48), (some (45, false)), []⟩, ⟨(some 50), 52, .load false 1 (.t 49), (some (45, false)), []⟩, ⟨(some 51), 53, .call 52 [((.t 50), 0), ((.c (.i .i64 1)), 0), ((.c (.i .i64 4)), 0)], (some (45, false)), []⟩, ⟨(some 52), 54, .un .not (.t 51), (some (45, false)), []⟩, ⟨(some 53), 55, .pick (.t 45) (.c (.b true)) (.t 52), none, []⟩])
  (.cond (.t 53)
  (.seq (.ops [⟨(some 2), 4, .mv (.c (.b false)), none, []⟩])
  .ret)
  .skip))
  (.seq (.ops [⟨(some 5), 7, .mv (.c (.i .i64 0)), none, []⟩])
  (.block 2 (.loop (.seq (.seq (.ops [⟨(some 54), 56, .mv (.t 5), none, []⟩, ⟨(some 55), 57, .mv (.t 4), none, []⟩, ⟨(some 56), 58, .bin .lss (.t 54) (.t 55), none, []⟩])
  (.cond (.t 56)
  .skip
  (.exit 2)))
  (.seq (.block 3 (.seq (.draw [⟨(some 59), 61, .mv (.t 3), none, []⟩, ⟨(some 60), 62, .mv (.t 5), none, []⟩, ⟨(some 61), 63, .iaddr 2 (.t 59) (.t 60), none, []⟩, ⟨(some 62), 64, .faddr 0 1 (.t 61), none, []⟩, ⟨(some 63), 65, .load false 1 (.t 62), none, []⟩, ⟨(some 64), 66, .mv (.t 3), none, []⟩, ⟨(some 65), 67, .mv (.t 4), none, []⟩, ⟨(some 66), 68, .iaddr 2 (.t 64) (.t 65), none, []⟩, ⟨(some 67), 69, .faddr 0 1 (.t 66), none, []⟩, ⟨(some 68), 70, .load false 1 (.t 67), none, []⟩, ⟨(some 69), 71, .bin .eql (.t 63) (.t 68), none, []⟩])
  (.cond (.t 69)
  (.seq (.ops [⟨(some 2), 4, .mv (.c (.b false)), none, []⟩])
  .ret)
  .skip)))
  (.ops [⟨(some 57), 59, .mv (.t 5), none, []⟩, ⟨(some 58), 60, .bin .add (.t 57) (.c (.i .i64 1)), none, []⟩, ⟨(some 5), 7, .mv (.t 58), none, []⟩]))))))))
  (.ops [⟨(some 36), 38, .mv (.t 4), none, []⟩, ⟨(some 37), 39, .bin .add (.t 36) (.c (.i .i64 1)), none, []⟩, ⟨(some 4), 6, .mv (.t 37), none, []⟩]))))))
  (.seq (.ops [⟨(some 2), 4, .mv (.c (.b true)), none, []⟩])
  .ret)))))
theorem k59 : compCode Tryz.prog Tryz.f59.ntmps Tryz.f59.body.get! = some c59 := by kernel_rfl
theorem r59 : resTmps Tryz.prog Tryz.f59.results.toList = some [.tmp 2] := by kernel_rfl
def c77 : TCode := (.seq (.ops [⟨(some 1), 3, .box 3 (.t 0), none, []⟩, ⟨(some 2), 4, .mv (.c (.b false)), none, []⟩])
  (.seq (.ops [⟨(some 8), 10, .bslice 1 0 [(.s ⟨#[]⟩)] [], none, []⟩, ⟨(some 3), 5, .mv (.t 8), none, []⟩])
  (.seq (.seq (.ops [⟨(some 9), 11, .faddr 0 1 (.t 1), none, []⟩, ⟨(some 10), 12, .load false 1 (.t 9), none, []⟩, ⟨(some 11), 13, .faddr 1 1 (.t 1), none, []⟩, ⟨(some 12), 14, .load false 1 (.t 11), none, []⟩, ⟨(some 13), 15, .faddr 2 1 (.t 1), none, []⟩, ⟨(some 14), 16, .load false 1 (.t 13), none, []⟩, ⟨(some 15), 17, .bslice 1 3 [(.sl true 2 [])] [(0, (.t 10)), (1, (.t 12)), (2, (.t 14))], none, []⟩, ⟨(some 16), 18, .len false (.t 15), none, []⟩, ⟨(some 17), 19, .mv (.c (.i .i64 0)), none, []⟩])
  (.block 0 (.loop (.seq (.ops [⟨(some 18), 20, .bin .lss (.t 17) (.t 16), none, []⟩])
  (.seq (.cond (.t 18)
  .skip
  (.exit 0))
  (.seq (.block 1 (.seq (.ops [⟨(some 19), 21, .iaddr 1 (.t 15) (.t 17), none, []⟩, ⟨(some 20), 22, .load false 1 (.t 19), none, []⟩, ⟨(some 5), 7, .mv (.t 20), none, []⟩])
  (.seq (.seq (.ops [⟨(some 21), 23, .mv (.t 5), none, []⟩, ⟨(some 22), 24, .len false (.t 21), none, []⟩, ⟨(some 23), 25, .bin .gtr (.t 22) (.c (.i .i64 12)), none, []⟩])
  (.cond (.t 23)
  (.seq (.ops [⟨(some 2), 4, .mv (.c (.b false)), none, []⟩])
  .ret)
  .skip))
  (.seq (.ops [⟨(some 24), 26, .mv (.t 5), none, []⟩, ⟨(some 25), 27, .len false (.t 24), none, []⟩, ⟨(some 26), 28, .mv (.c (.i .i64 0)), none, []⟩])
  (.block 2 (.loop (.seq (.ops [⟨(some 27), 29, .bin .lss (.t 26) (.t 25), none, []⟩])
  (.seq (.cond (.t 27)
  .skip
  (.exit 2))
  (.seq (.block 3 (.seq (.ops [⟨(some 28), 30, .iaddr 2 (.t 24) (.t 26), none, []⟩, ⟨(some 29), 31, .load true 2 (.t 28), none, []⟩, ⟨(some 7), 9, .box 2 (.c (.ag [(.s ⟨#[]⟩), (.i .i64 0)])), none, []⟩, ⟨none, 1009003, .store 2 (.t 7) (.t 29), none, []⟩])
  (.seq (.seq (.ops [⟨(some 30), 32, .faddr 0 1 (.t 7), none, []⟩, ⟨(some 31), 33, .load false 1 (.t 30), none, []⟩, ⟨(some 32), 34, .call 114 [((.t 31), 0)], none, []⟩, ⟨(some 33), 35, .un .not (.t 32), none, []⟩, ⟨(some 34), 36, .mv (.t 33), none, []⟩, ⟨(some 35), 37, .mv (.t 3), (some (34, false)), []⟩, ⟨(some 36), 38, .faddr 0 1 (.t 7), (some (34, false)), []⟩, ⟨(some 37), 39, .load false 1 (.t 36), (some (34, false)), []⟩, ⟨(some 38), 40, .call 115 [((.t 35), 0), ((.t 37), 0)], (some (34, false)), []⟩, ⟨(some 39), 41, .pick (.t 34) (.c (.b true)) (.t 38), none, []⟩, ⟨(some 40), 42, .mv (.t 39), none, []⟩, ⟨(some 41), 43, .faddr 1 1 (.t 7), (some (40, false)), []⟩, ⟨(some 42), 44, .load false 1 (.t 41), (some (40, false)), []⟩, ⟨(some 43), 45, .call 116 [((.t 42), 0)], (some (40, false)), []⟩, ⟨(some 44), 46, .un .not (.t 43), (some (40, false)), []⟩, ⟨(some 45), 47, .pick (.t 40) (.c (.b true)) (.t 44), none, []⟩])
  (.cond (.t 45)
  (.seq (.ops [⟨(some 2), 4, .mv (.c (.b false)), none, []⟩])
  .ret)
  .skip))
  (.ops [⟨(some 46), 48, .mv (.t 3), none, []⟩, ⟨(some 47), 49, .faddr 0 1 (.t 7), none, []⟩, ⟨(some 48), 50, .load false 1 (.t 47), none, []⟩, ⟨(some 49), 51, .bslice 1 1 [(.s ⟨#[]⟩)] [(0, (.t 48))], none, []⟩, ⟨(some 50), 52, .app 1 16 (.t 46) (.t 49), none, []⟩, ⟨(some 3), 5, .mv (.t 50), none, []⟩]))))
  (.ops [⟨(some 51), 53, .bin .add (.t 26) (.c (.i .i64 1)), none, []⟩, ⟨(some 26), 28, .mv (.t 51), none, []⟩]))))))))))
  (.ops [⟨(some 52), 54, .bin .add (.t 17) (.c (.i .i64 1)), none, []⟩, ⟨(some 17), 19, .mv (.t 52), none, []⟩])))))))
  (.seq (.ops [⟨(some 2), 4, .mv (.c (.b true)), none, []⟩])
  .ret))))
theorem k77 : compCode Tryz.prog Tryz.f77.ntmps Tryz.f77.body.get! = some c77 := by kernel_rfl
theorem r77 : resTmps Tryz.prog Tryz.f77.results.toList = some [.tmp 2] := by kernel_rfl
def c133 : TCode := (.seq (.ops [⟨(some 4), 6, .mv (.c (.i .i64 0)), none, []⟩])
  (.seq (.seq (.ops [⟨(some 6), 8, .mv (.t 0), none, []⟩, ⟨(some 7), 9, .len false (.t 6), none, []⟩, ⟨(some 8), 10, .mv (.c (.i .i64 0)), none, []⟩])
  (.block 0 (.loop (.seq (.ops [⟨(some 9), 11, .bin .lss (.t 8) (.t 7), none, []⟩])
  (.seq (.cond (.t 9)
  .skip
  (.exit 0))
  (.seq (.block 1 (.seq (.ops [⟨(some 10), 12, .mv (.t 8), none, []⟩, ⟨(some 5), 7, .mv (.t 10), none, []⟩])
  (.seq (.ops [⟨(some 11), 13, .mv (.t 1), none, []⟩, ⟨(some 12), 14, .mv (.t 0), none, []⟩, ⟨(some 13), 15, .mv (.t 5), none, []⟩, ⟨(some 14), 16, .iaddr 1 (.t 12) (.t 13), none, []⟩, ⟨(some 15), 17, .load false 1 (.t 14), none, []⟩, ⟨(some 16), 18, .bin .eql (.t 11) (.t 15), none, []⟩])
  (.cond (.t 16)
  (.seq (.ops [⟨(some 17), 19, .mv (.t 5), none, []⟩, ⟨(some 4), 6, .mv (.t 17), none, []⟩])
  .ret)
  .skip))))
  (.ops [⟨(some 18), 20, .bin .add (.t 8) (.c (.i .i64 1)), none, []⟩, ⟨(some 8), 10, .mv (.t 18), none, []⟩])))))))
  (.seq (.ops [⟨(some 4), 6, .mv (.c (.i .i64 (-1))), none, []⟩])
  .ret)))
theorem k133 : compCode Tryz.prog Tryz.f133.ntmps Tryz.f133.body.get! = some c133 := by kernel_rfl
theorem r133 : resTmps Tryz.prog Tryz.f133.results.toList = some [.tmp 4] := by kernel_rfl
def c115 : TCode := (.seq (.ops [⟨(some 4), 6, .mv (.c (.b false)), none, []⟩])
  (.seq (.ops [⟨(some 5), 7, .mv (.t 0), none, []⟩, ⟨(some 6), 8, .mv (.t 1), none, []⟩, ⟨(some 7), 9, .call 133 [((.t 5), 0), ((.t 6), 0)], none, []⟩, ⟨(some 8), 10, .bin .geq (.t 7) (.c (.i .i64 0)), none, []⟩, ⟨(some 4), 6, .mv (.t 8), none, []⟩])
  .ret))
theorem k115 : compCode Tryz.prog Tryz.f115.ntmps Tryz.f115.body.get! = some c115 := by kernel_rfl
theorem r115 : resTmps Tryz.prog Tryz.f115.results.toList = some [.tmp 4] := by kernel_rfl
def idxP {α : Type} (p : α → Bool) (l : List α) : Int := match l.findIdx? p with
  | some i => i
  | none => -1
theorem idxP_at {α : Type} {p : α → Bool} {l : List α} {x : α} {j : Nat} (h : l[j]? = some x) (hp : p x = true) (hn : ∀ y ∈ l.take j, p y = false) : idxP p l = j := by
  have hj := (List.getElem?_eq_some_iff.1 h).1
  have : l.findIdx? p = some j := by
    rw [List.findIdx?_eq_some_iff_getElem]
    refine ⟨hj, by rw [(List.getElem?_eq_some_iff.1 h).2]; exact hp, fun k hk => ?_⟩
    have := hn (l[k]) (by rw [List.mem_take_iff_getElem]; exact ⟨k, by omega, rfl⟩)
    simp [this]
  simp [idxP, this]
theorem idxP_none {α : Type} {p : α → Bool} {l : List α} (h : ∀ y ∈ l, p y = false) : idxP p l = -1 := by
  have : l.findIdx? p = none := by rw [List.findIdx?_eq_none_iff]; exact fun x hx => by simp [h x hx]
  simp [idxP, this]
theorem idxP_ge {α : Type} {p : α → Bool} {l : List α} : 0 ≤ idxP p l ↔ ∃ y ∈ l, p y = true := by
  unfold idxP
  split
  · rename_i i hi
    rw [List.findIdx?_eq_some_iff_getElem] at hi
    obtain ⟨h1, h2, _⟩ := hi
    exact ⟨fun _ => ⟨l[i], List.getElem_mem h1, h2⟩, fun _ => by omega⟩
  · rename_i hi
    rw [List.findIdx?_eq_none_iff] at hi
    exact ⟨fun h => by omega, fun ⟨y, h1, h2⟩ => by have := hi y h1; simp [h2] at this⟩
theorem w133 (l : List ByteArray) (x : ByteArray) (hl : l.length ≤ 2^40) : Contract Tryz.prog false 133 [.ro, .ro] [.sl false 1 (l.map sT), .s x] [.i .i64 (idxP (fun y => decide (x = y)) l)] [] := by
  refine mk_contract [] Tryz.func133 (c := Tryz.f133.body.get!) (by kernel_rfl) k133 r133 (of_decide_eq_true rfl) fun _ => ?_
  unfold c133; simp
  refine twp_for l.length (fun j s => s.t 0 = .sl false 1 (l.map sT) ∧ s.t 1 = .s x ∧ s.t 7 = .i .i64 l.length ∧ s.t 8 = .i .i64 j ∧ (∀ y ∈ l.take j, decide (x = y) = false) ∧ s.H = lk [(1, [])]) [] (by simp) ?_ ?_
  · simp
  · rintro j s hj ⟨q0, q1, q7, q8, hn, qH⟩
    rw [nf_of qH]
    simp [q0, q1, q7, q8]
    refine ⟨fun hlt => ?_, fun hge => ?_⟩
    · have hw : IntKind.i64.wrap (j + 1) = j + 1 := wrap_id (by omega) (by omega)
      obtain ⟨y, hy⟩ := get_some hlt
      simp [hy, hw, q0, q1, q7, q8]
      refine ⟨fun h => (idxP_at hy (by simp [h]) hn).symm, fun h => ⟨hlt, fun z hz => ?_⟩⟩
      rw [take_snoc hy, List.mem_append, List.mem_singleton] at hz
      rcases hz with hz | rfl
      · simpa using hn z hz
      · exact h
    · obtain rfl : j = l.length := by omega
      rw [List.take_of_length_le (Nat.le_refl _)] at hn
      exact (idxP_none hn).symm
theorem w115 (l : List ByteArray) (x : ByteArray) (hl : l.length ≤ 2^40) : Contract Tryz.prog false 115 [.ro, .ro] [.sl false 1 (l.map sT), .s x] [.b (decide (x ∈ l))] [] := by
  refine mk_contract [] Tryz.func115 (c := Tryz.f115.body.get!) (by kernel_rfl) k115 r115 (of_decide_eq_true rfl) fun _ => ?_
  unfold c115; simp
  refine callW_ms [.ro, .ro] ?_
  simp
  refine callX_of (w133 l x hl) (by simp) ?_
  simp [idxP_ge]
def goodD (d : ByteArray × Int) : Prop := nameP d.1 ∧ 1 ≤ d.2 ∧ d.2 ≤ 4
def okPre (l : List (ByteArray × Int)) : Prop := (∀ d ∈ l, goodD d) ∧ (l.map (·.1)).Nodup
noncomputable instance okPreD (l : List (ByteArray × Int)) : Decidable (okPre l) := Classical.propDecidable _
def RegOkP (c r e : List (ByteArray × Int)) : Prop := (c.length ≤ 12 ∧ r.length ≤ 12 ∧ e.length ≤ 12) ∧ okPre (c ++ r ++ e)
noncomputable instance (c r e : List (ByteArray × Int)) : Decidable (RegOkP c r e) := Classical.propDecidable _
theorem okPre_snoc {l : List (ByteArray × Int)} {d : ByteArray × Int} : okPre (l ++ [d]) ↔ okPre l ∧ goodD d ∧ d.1 ∉ l.map (·.1) := by
  unfold okPre
  simp only [List.mem_append, List.mem_singleton, List.map_append, List.map_cons, List.map_nil, List.nodup_append, List.nodup_cons]
  constructor
  · rintro ⟨h1, h2, _, h3⟩
    exact ⟨⟨fun y hy => h1 y (.inl hy), h2⟩, h1 d (.inr rfl), fun hx => h3 _ hx _ (by simp) rfl⟩
  · rintro ⟨⟨h1, h2⟩, h3, h4⟩
    refine ⟨fun y hy => ?_, h2, by simp, fun y hy z hz => ?_⟩
    · rcases hy with hy | rfl
      · exact h1 y hy
      · exact h3
    · subst hz; rintro rfl; exact h4 hy
theorem okPre_take {l : List (ByteArray × Int)} (h : okPre l) (j : Nat) : okPre (l.take j) :=
  ⟨fun x hx => h.1 x (List.mem_of_mem_take hx), by rw [List.map_take]; exact h.2.sublist (List.take_sublist j _)⟩
theorem w59 (c r e : List (ByteArray × Int)) (hc : c.length ≤ 2^40) (hr : r.length ≤ 2^40) (he : e.length ≤ 2^40) : Contract Tryz.prog false 59 [.ro] [regR c r e] [.b (decide (RegOkP c r e))] [] := by
  refine mk_contract [] Tryz.func59 (c := Tryz.f59.body.get!) (by kernel_rfl) k59 r59 (of_decide_eq_true rfl) fun _ => ?_
  unfold c59; unfold regR; simp
  by_cases h1 : (12 : Int) < c.length
  · have : ¬ RegOkP c r e := fun h => by have := h.1.1; omega
    simp [h1, this]
  by_cases h2 : (12 : Int) < r.length
  · have : ¬ RegOkP c r e := fun h => by have := h.1.2.1; omega
    simp [h1, h2, this]
  by_cases h3 : (12 : Int) < e.length
  · have : ¬ RegOkP c r e := fun h => by have := h.1.2.2; omega
    simp [h1, h2, h3, this]
  simp [h1, h2, h3]
  refine ⟨by omega, by omega, by omega, ?_⟩
  obtain ⟨L, hL⟩ : ∃ L, L = c ++ r ++ e := ⟨_, rfl⟩
  have hLl : L.length ≤ 36 := by subst hL; simp; omega
  have hP : RegOkP c r e ↔ okPre L := by subst hL; exact ⟨fun h => h.2, fun h => ⟨by omega, h⟩⟩
  rw [show decide (RegOkP c r e) = decide (okPre L) from decide_eq_decide.2 hP]
  refine twp_for L.length (fun j s => s.t 3 = .rf [(33, 0)] 0 L.length ∧ s.t 4 = .i .i64 j ∧ okPre (L.take j) ∧ s.H = lk [(1, []), (3, [.po true [.sl false 2 (c.map dT), .sl false 2 (r.map dT), .sl false 2 (e.map dT)]]), (33, [.sl true 2 (L.map dT)])]) [24, 27, 30] (by simp) ?_ ?_
  · simp [hL, okPre, Nat.add_assoc]
  · rintro j s hj ⟨q3, q4, hn, qH⟩
    rw [nf_of qH]
    simp [q3, q4]
    refine ⟨fun hlt => ?_, fun hge => ?_⟩
    · have hw : IntKind.i64.wrap (j + 1) = j + 1 := wrap_id (by omega) (by omega)
      obtain ⟨x, hx⟩ := get_some hlt
      simp [hx, hw, q3, q4]
      have hbad : okPre L → goodD x := fun h => h.1 x (List.mem_of_getElem? hx)
      refine ⟨hlt, ?_⟩
      by_cases hn1 : nameP x.1
      · refine callW_ms [.ro] ?_
        simp
        refine callX_of ((w108 x.1).t hn1) (by simp) ?_
        simp [hw, q3, q4, hx]
        refine ⟨hlt, ?_⟩
        by_cases hk : 1 ≤ x.2 ∧ x.2 ≤ 4
        · refine callW_ms [.ro, .ro, .ro] ?_
          simp
          refine callX_of ((w52 x.2 1 4).t hk) (by simp) ?_
          simp [hw, q3, q4, hx]
          refine twp_for j (fun i s2 => s2.t 3 = .rf [(33, 0)] 0 L.length ∧ s2.t 4 = .i .i64 j ∧ s2.t 5 = .i .i64 i ∧ (∀ d ∈ L.take i, d.1 ≠ x.1) ∧ s2.H = lk [(1, []), (3, [.po true [.sl false 2 (c.map dT), .sl false 2 (r.map dT), .sl false 2 (e.map dT)]]), (33, [.sl true 2 (L.map dT)])]) [] (by simp) ?_ ?_
          · simp [q3, q4]
          · rintro i s2 hi ⟨p3, p4, p5, hd, pH⟩
            rw [nf_of pH]
            simp [p3, p4, p5]
            refine ⟨fun hlt2 => ?_, fun hge2 => ?_⟩
            · have hwi : IntKind.i64.wrap (i + 1) = i + 1 := wrap_id (by omega) (by omega)
              obtain ⟨y, hy⟩ := get_some (l := L) (j := i) (by omega)
              simp [hy, hwi, hx, p3, p4, p5]
              refine ⟨by omega, hlt, ?_⟩
              refine ⟨fun h h2 => ?_, fun h => ⟨hlt2, fun a b hab => ?_⟩⟩
              · have h3 := okPre_take h2 (j + 1)
                rw [take_snoc hx, okPre_snoc] at h3
                refine h3.2.2 (List.mem_map.2 ⟨y, ?_, h⟩)
                rw [List.mem_take_iff_getElem]
                exact ⟨i, by omega, (List.getElem?_eq_some_iff.1 hy).2⟩
              · rw [take_snoc hy, List.mem_append, List.mem_singleton] at hab
                rcases hab with hab | hab
                · exact hd _ hab
                · rw [show a = y.1 by rw [← hab]]; exact h
            · obtain rfl : i = j := by omega
              simp [p3, p4, p5, hw]
              refine ⟨hlt, ?_⟩
              rw [take_snoc hx, okPre_snoc]
              refine ⟨hn, ⟨hn1, hk⟩, fun h => ?_⟩
              obtain ⟨d, hd1, hd2⟩ := List.mem_map.1 h
              exact hd d hd1 hd2
        · refine callW_ms [.ro, .ro, .ro] ?_
          simp
          refine callX_of ((w52 x.2 1 4).f hk) (by simp) ?_
          simp [hw, q3, q4, hx]
          intro h; exact hk (hbad h).2
      · refine callW_ms [.ro] ?_
        simp
        refine callX_of ((w108 x.1).f hn1) (by simp) ?_
        simp [hw, q3, q4, hx]
        intro h; exact hn1 (hbad h).1
    · obtain rfl : j = L.length := by omega
      rw [List.take_of_length_le (Nat.le_refl _)] at hn
      exact hn
theorem okPre_flat {c r e : List (ByteArray × Int)} : RegOkP c r e ↔ (∀ l ∈ [c, r, e], l.length ≤ 12) ∧ okPre ([c, r, e].flatten) := by
  unfold RegOkP; simp [List.append_assoc]
theorem flat_take {α : Type} {Ls : List (List α)} {j : Nat} {l : List α} (h : Ls[j]? = some l) : (Ls.take (j + 1)).flatten = (Ls.take j).flatten ++ l := by
  rw [take_snoc h]; simp
theorem okPre_left {a b : List (ByteArray × Int)} (h : okPre (a ++ b)) : okPre a := by
  have := okPre_take h a.length; simpa using this
theorem flat_left {α : Type} (Ls : List (List α)) (j : Nat) : ∃ b, Ls.flatten = (Ls.take j).flatten ++ b := ⟨(Ls.drop j).flatten, by rw [← List.flatten_append, List.take_append_drop]⟩
def namesB (Ls : List (List (ByteArray × Int))) (j : Nat) (l : List (ByteArray × Int)) (i : Nat) : List ByteArray := ((Ls.take j).flatten ++ l.take i).map (·.1)
theorem w77 (c r e : List (ByteArray × Int)) (hc : c.length ≤ 2^40) (hr : r.length ≤ 2^40) (he : e.length ≤ 2^40) (hs : ∀ l ∈ [c, r, e], ∀ d ∈ l, d.1.size ≤ 2^40) : Contract Tryz.prog false 77 [.ro] [regR c r e] [.b (decide (RegOkP c r e))] [] := by
  refine mk_contract [] Tryz.func77 (c := Tryz.f77.body.get!) (by kernel_rfl) k77 r77 (of_decide_eq_true rfl) fun _ => ?_
  unfold c77; unfold regR; simp
  have hP := okPre_flat (c := c) (r := r) (e := e)
  obtain ⟨Ls, hLs⟩ : ∃ Ls, Ls = [c, r, e] := ⟨_, rfl⟩
  have hl3 : Ls.length = 3 := by subst hLs; rfl
  have hlb : ∀ l ∈ Ls, l.length ≤ 2^40 := by subst hLs; simp; omega
  rw [← hLs] at hP hs
  refine twp_forR 3 (fun j s => s.t 3 = .rf [(52, 0)] 0 (namesB Ls j [] 0).length ∧ s.t 15 = .rf [(17, 0)] 0 3 ∧ s.t 16 = .i .i64 3 ∧ s.t 17 = .i .i64 j ∧ (∀ l ∈ Ls.take j, l.length ≤ 12) ∧ okPre (Ls.take j).flatten ∧ (namesB Ls j [] 0).length ≤ 12 * j ∧ s.H = lk [(1, []), (3, [.po true [.sl false 2 (c.map dT), .sl false 2 (r.map dT), .sl false 2 (e.map dT)]]), (52, [.sl true 1 ((namesB Ls j [] 0).map sT)]), (17, [.sl true 1 (Ls.map fun l => [.sl false 2 (l.map dT)])])]) [] [(10, 52)] (by simp) (by simp) ?_ ?_
  · simp [hLs, okPre, namesB]
  · rintro j s hj ⟨q3, q15, q16, q17, hlen, hn, hnl, qH⟩
    rw [nf_of qH]
    simp [q3, q15, q16, q17]
    refine ⟨fun hlt => ?_, fun hge => ?_⟩
    · have hw : IntKind.i64.wrap (j + 1) = j + 1 := wrap_id (by omega) (by omega)
      obtain ⟨l, hl⟩ := get_some (l := Ls) (j := j) (by omega)
      have hlm := List.mem_of_getElem? hl
      have hl40 := hlb l hlm
      simp [hl, hw, q3, q15, q16, q17]
      by_cases h12 : (12 : Int) < l.length
      · have : ¬ RegOkP c r e := fun h => by have := (hP.1 h).1 l hlm; omega
        simp [h12, this]
        omega
      · simp [h12]
        refine ⟨by omega, fun _ => ?_⟩
        refine twp_for l.length (fun i s2 => s2.t 3 = .rf [(52, 0)] 0 (namesB Ls j l i).length ∧ s2.t 15 = .rf [(17, 0)] 0 3 ∧ s2.t 16 = .i .i64 3 ∧ s2.t 17 = .i .i64 j ∧ s2.t 24 = .sl false 2 (l.map dT) ∧ s2.t 25 = .i .i64 l.length ∧ s2.t 26 = .i .i64 i ∧ okPre ((Ls.take j).flatten ++ l.take i) ∧ (namesB Ls j l i).length ≤ 12 * j + i ∧ s2.H = lk [(1, []), (3, [.po true [.sl false 2 (c.map dT), .sl false 2 (r.map dT), .sl false 2 (e.map dT)]]), (52, [.sl true 1 ((namesB Ls j l i).map sT)]), (17, [.sl true 1 (Ls.map fun l => [.sl false 2 (l.map dT)])])]) [9, 51] (by simp) ?_ ?_
        · have e : namesB Ls j l 0 = namesB Ls j [] 0 := by simp [namesB]
          simp [q3, q15, q16, q17, hn, hnl, e]
        · rintro i s2 hi ⟨p3, p15, p16, p17, p24, p25, p26, hni, hnli, pH⟩
          rw [nf_of pH]
          simp [p3, p15, p16, p17, p24, p25, p26]
          refine ⟨fun hlt2 => ?_, fun hge2 => ?_⟩
          · have hwi : IntKind.i64.wrap (i + 1) = i + 1 := wrap_id (by omega) (by omega)
            obtain ⟨d, hd⟩ := get_some hlt2
            have hdm := List.mem_of_getElem? hd
            have hall : RegOkP c r e → okPre ((Ls.take j).flatten ++ l.take i ++ [d]) := fun h => by
              have h2 := (hP.1 h).2
              obtain ⟨b, hb⟩ := flat_left Ls (j + 1)
              rw [hb, flat_take hl] at h2
              have h3 := okPre_left h2
              rw [← List.take_append_drop (i + 1) l, take_snoc hd] at h3
              rw [← List.append_assoc, ← List.append_assoc] at h3
              exact okPre_left h3
            rw [okPre_snoc] at hall
            have hmem : (d.1 ∈ ((Ls.take j).flatten ++ l.take i).map (·.1)) ↔ d.1 ∈ namesB Ls j l i := Iff.rfl
            rw [hmem] at hall
            simp [hd, hwi, p3, p15, p16, p17, p24, p25, p26]
            by_cases hn1 : nameP d.1
            · refine callW_ms [.ro] ?_
              simp
              refine callX_of ((w114 d.1 (hs l hlm d hdm)).t hn1) (by simp) ?_
              simp [hwi, p3, p15, p16, p17, p24, p25, p26]
              by_cases hm : d.1 ∈ namesB Ls j l i
              · refine callW_ms [.ro, .ro] ?_
                simp
                refine callX_of ((w115 (namesB Ls j l i) d.1 (by omega)).t hm) (by simp) ?_
                simp [hwi, p3, p15, p16, p17, p24, p25, p26]
                intro h; exact (hall h).2.2 hm
              · refine callW_ms [.ro, .ro] ?_
                simp
                refine callX_of ((w115 (namesB Ls j l i) d.1 (by omega)).f hm) (by simp) ?_
                simp [hwi, p3, p15, p16, p17, p24, p25, p26]
                by_cases hk : 1 ≤ d.2 ∧ d.2 ≤ 4
                · refine callW_ms [.ro] ?_
                  simp
                  refine callX_of ((w116 d.2).t hk) (by simp) ?_
                  simp [hwi, p3, p15, p16, p17, p24, p25, p26]
                  have e1 : namesB Ls j l (i + 1) = namesB Ls j l i ++ [d.1] := by
                    unfold namesB; rw [take_snoc hd, ← List.append_assoc, List.map_append]; rfl
                  refine ⟨by omega, hlt2, by rw [e1]; simp, ?_, by rw [e1]; simp; omega, by rw [e1]; simp⟩
                  rw [take_snoc hd, ← List.append_assoc, okPre_snoc]
                  exact ⟨hni, ⟨hn1, hk⟩, hm⟩
                · refine callW_ms [.ro] ?_
                  simp
                  refine callX_of ((w116 d.2).f hk) (by simp) ?_
                  simp [hwi, p3, p15, p16, p17, p24, p25, p26]
                  intro h; exact hk (hall h).2.1.2
            · refine callW_ms [.ro] ?_
              simp
              refine callX_of ((w114 d.1 (hs l hlm d hdm)).f hn1) (by simp) ?_
              simp [hwi, p3, p15, p16, p17, p24, p25, p26]
              intro h; exact hn1 (hall h).2.1.1
          · obtain rfl : i = l.length := by omega
            simp [p3, p15, p16, p17, p24, p25, p26, hw]
            have e1 : namesB Ls (j + 1) [] 0 = namesB Ls j l l.length := by
              unfold namesB; rw [flat_take hl]; simp
            rw [List.take_of_length_le (Nat.le_refl _)] at hni
            refine ⟨by omega, by rw [e1], fun l' hl' => ?_, by rw [flat_take hl]; exact hni, by rw [e1]; omega, by rw [e1]⟩
            rw [take_snoc hl, List.mem_append, List.mem_singleton] at hl'
            rcases hl' with hl' | rfl
            · exact hlen l' hl'
            · omega
    · obtain rfl : j = 3 := by omega
      rw [← hl3, List.take_length] at hn hlen
      exact hP.2 ⟨hlen, hn⟩
theorem okD_all {c r e : List (ByteArray × Int)} {k : Nat} (h : okD k c ∧ okD k r ∧ okD k e) : ∀ l ∈ [c, r, e], ∀ d ∈ l, d.1.size ≤ k := by
  intro l hl d hd
  simp only [List.mem_cons, List.not_mem_nil, or_false] at hl
  rcases hl with rfl | rfl | rfl
  · exact h.1.2 d hd
  · exact h.2.1.2 d hd
  · exact h.2.2.2 d hd
theorem okD_mono {k k' : Nat} {l : List (ByteArray × Int)} (h : okD k l) (hk : k ≤ k') : okD k' l := ⟨Nat.le_trans h.1 hk, fun d hd => Nat.le_trans (h.2 d hd) hk⟩
end Go.Proofs.YtehmdblkkpdmoaaGreatT


namespace Go.Proofs.YtehmdblkkpdmoaaGreatT
set_option linter.unusedVariables false
set_option linter.unusedSimpArgs false
open Go
def c118 : TCode := (.seq (.ops [⟨(some 4), 6, .mv (.c (.b false)), none, []⟩])
  (.seq (.seq (.ops [⟨(some 7), 9, .mv (.t 0), none, []⟩, ⟨(some 8), 10, .len false (.t 7), none, []⟩, ⟨(some 9), 11, .mv (.c (.i .i64 0)), none, []⟩])
  (.block 0 (.loop (.seq (.ops [⟨(some 10), 12, .bin .lss (.t 9) (.t 8), none, []⟩])
  (.seq (.cond (.t 10)
  .skip
  (.exit 0))
  (.seq (.block 1 (.seq (.ops [⟨(some 11), 13, .mv (.t 9), none, []⟩, ⟨(some 12), 14, .iaddr 1 (.t 7) (.t 9), none, []⟩, ⟨(some 13), 15, .load false 1 (.t 12), none, []⟩, ⟨(some 5), 7, .mv (.t 11), none, []⟩, ⟨(some 6), 8, .mv (.t 13), none, []⟩])
  (.seq (.ops [⟨(some 14), 16, .mv (.t 6), none, []⟩, ⟨(some 15), 17, .mv (.t 1), none, []⟩, ⟨(some 16), 18, .bin .sub (.t 15) (.c (.i .i64 1)), none, []⟩, ⟨(some 17), 19, .call 54 [((.t 14), 0), ((.c (.i .i64 0)), 0), ((.t 16), 0)], none, []⟩, ⟨(some 18), 20, .un .not (.t 17), none, []⟩, ⟨(some 19), 21, .mv (.t 18), none, []⟩, ⟨(some 20), 22, .mv (.t 5), (some (19, false)), []⟩, ⟨(some 21), 23, .bin .gtr (.t 20) (.c (.i .i64 0)), (some (19, false)), []⟩, ⟨(some 22), 24, .mv (.t 21), (some (19, false)), []⟩, ⟨(some 23), 25, .mv (.t 0), (some (22, true)), []⟩, ⟨(some 24), 26, .mv (.t 5), (some (22, true)), []⟩, ⟨(some 25), 27, .bin .sub (.t 24) (.c (.i .i64 1)), (some (22, true)), []⟩, ⟨(some 26), 28, .iaddr 1 (.t 23) (.t 25), (some (22, true)), []⟩, ⟨(some 27), 29, .load false 1 (.t 26), (some (22, true)), []⟩, ⟨(some 28), 30, .mv (.t 6), (some (22, true)), []⟩, ⟨(some 29), 31, .bin .geq (.t 27) (.t 28), (some (22, true)), []⟩, ⟨(some 30), 32, .pick (.t 22) (.t 29) (.c (.b false)), (some (19, false)), []⟩, ⟨(some 31), 33, .pick (.t 19) (.c (.b true)) (.t 30), none, []⟩])
  (.cond (.t 31)
  (.seq (.ops [⟨(some 4), 6, .mv (.c (.b false)), none, []⟩])
  .ret)
  .skip))))
  (.ops [⟨(some 32), 34, .bin .add (.t 9) (.c (.i .i64 1)), none, []⟩, ⟨(some 9), 11, .mv (.t 32), none, []⟩])))))))
  (.seq (.ops [⟨(some 4), 6, .mv (.c (.b true)), none, []⟩])
  .ret)))
theorem k118 : compCode Tryz.prog Tryz.f118.ntmps Tryz.f118.body.get! = some c118 := by kernel_rfl
theorem r118 : resTmps Tryz.prog Tryz.f118.results.toList = some [.tmp 4] := by kernel_rfl
def c110 : TCode := (.seq (.ops [⟨(some 4), 6, .mv (.c (.b false)), none, []⟩])
  (.seq (.seq (.ops [⟨(some 5), 7, .mv (.c (.i .i64 0)), none, []⟩])
  (.block 0 (.loop (.seq (.seq (.ops [⟨(some 6), 8, .mv (.t 5), none, []⟩, ⟨(some 7), 9, .mv (.t 0), none, []⟩, ⟨(some 8), 10, .len false (.t 7), none, []⟩, ⟨(some 9), 11, .bin .lss (.t 6) (.t 8), none, []⟩])
  (.cond (.t 9)
  .skip
  (.exit 0)))
  (.seq (.block 1 (.seq (.draw [⟨(some 12), 14, .mv (.t 0), none, []⟩, ⟨(some 13), 15, .mv (.t 5), none, []⟩, ⟨(some 14), 16, .iaddr 1 (.t 12) (.t 13), none, []⟩, ⟨(some 15), 17, .load false 1 (.t 14), none, []⟩, ⟨(some 16), 18, .mv (.t 1), none, []⟩, ⟨(some 17), 19, .bin .sub (.t 16) (.c (.i .i64 1)), none, []⟩, ⟨(some 18), 20, .call 52 [((.t 15), 0), ((.c (.i .i64 0)), 0), ((.t 17), 0)], none, []⟩, ⟨(some 19), 21, .un .not (.t 18), none, []⟩, ⟨(some 20), 22, .mv (.t 19), none, []⟩, ⟨(some 21), 23, .mv (.t 5), (some (20, false)), []⟩, ⟨(some 22), 24, .bin .gtr (.t 21) (.c (.i .i64 0)), (some (20, false)), []⟩, ⟨(some 23), 25, .mv (.t 22), (some (20, false)), []⟩, ⟨(some 24), 26, .mv (.t 0), (some (23, true)), []⟩, ⟨(some 25), 27, .mv (.t 5), (some (23, true)), []⟩, ⟨(some 26), 28, .bin .sub (.t 25) (.c (.i .i64 1)), (some (23, true)), []⟩, ⟨(some 27), 29, .iaddr 1 (.t 24) (.t 26), (some (23, true)), []⟩, ⟨(some 28), 30, .load false 1 (.t 27), (some (23, true)), []⟩, ⟨(some 29), 31, .mv (.t 0), (some (23, true)), []⟩, ⟨(some 30), 32, .mv (.t 5), (some (23, true)), []⟩, ⟨(some 31), 33, .iaddr 1 (.t 29) (.t 30), (some (23, true)), []⟩, ⟨(some 32), 34, .load false 1 (.t 31), (some (23, true)), []⟩, ⟨(some 33), 35, .bin .geq (.t 28) (.t 32), (some (23, true)), []⟩, ⟨(some 34), 36, .pick (.t 23) (.t 33) (.c (.b false)), (some (20, false)), []⟩, ⟨(some 35), 37, .pick (.t 20) (.c (.b true)) (.t 34), none, []⟩])
  (.cond (.t 35)
  (.seq (.ops [⟨(some 4), 6, .mv (.c (.b false)), none, []⟩])
  .ret)
  .skip)))
  (.ops [⟨(some 10), 12, .mv (.t 5), none, []⟩, ⟨(some 11), 13, .bin .add (.t 10) (.c (.i .i64 1)), none, []⟩, ⟨(some 5), 7, .mv (.t 11), none, []⟩]))))))
  (.seq (.ops [⟨(some 4), 6, .mv (.c (.b true)), none, []⟩])
  .ret)))
theorem k110 : compCode Tryz.prog Tryz.f110.ntmps Tryz.f110.body.get! = some c110 := by kernel_rfl
theorem r110 : resTmps Tryz.prog Tryz.f110.results.toList = some [.tmp 4] := by kernel_rfl
def colsP (l : List Int) (n : Nat) : Prop := (∀ x ∈ l, 0 ≤ x ∧ x ≤ (n : Int) - 1) ∧ ris l
noncomputable instance (l : List Int) (n : Nat) : Decidable (colsP l n) := Classical.propDecidable _
theorem colsP_nil (n : Nat) : colsP [] n := ⟨by simp, List.Pairwise.nil⟩
theorem colsP_take {l : List Int} {n : Nat} (h : colsP l n) (j : Nat) : colsP (l.take j) n := ⟨fun x hx => h.1 x (List.mem_of_mem_take hx), List.Pairwise.sublist (List.take_sublist j l) h.2⟩
theorem colsP_one {l : List Int} {n : Nat} {x : Int} (hx : l[0]? = some x) : colsP (l.take 1) n ↔ 0 ≤ x ∧ x ≤ (n : Int) - 1 := by
  rw [take_snoc hx]; simp [colsP, ris]
theorem colsP_snoc {l : List Int} {n j : Nat} {x y : Int} (h : colsP (l.take (j + 1)) n) (hy : l[j]? = some y) (hx : l[j + 1]? = some x) : colsP (l.take (j + 2)) n ↔ (0 ≤ x ∧ x ≤ (n : Int) - 1) ∧ y < x := by
  rw [take_snoc hx]
  constructor
  · rintro ⟨h1, h2⟩
    refine ⟨h1 x (by simp), ?_⟩
    have := (List.pairwise_append.1 h2).2.2 y (by rw [take_snoc hy]; simp) x (by simp)
    exact this
  · rintro ⟨h1, h2⟩
    refine ⟨fun z hz => ?_, ?_⟩
    · rcases List.mem_append.1 hz with hz | hz
      · exact h.1 z hz
      · rw [List.mem_singleton.1 hz]; exact h1
    · refine List.pairwise_append.2 ⟨h.2, List.pairwise_singleton _ _, fun a ha b hb => ?_⟩
      rw [List.mem_singleton.1 hb]
      have hr := h.2
      rw [take_snoc hy] at ha hr
      rcases List.mem_append.1 ha with ha | ha
      · have : a < y := (List.pairwise_append.1 hr).2.2 a ha y (by simp)
        omega
      · rw [List.mem_singleton.1 ha]; exact h2
theorem w118 (l : List Int) (n : Nat) (hl : l.length ≤ 2^40) (hn : n ≤ 2^40) : Contract Tryz.prog false 118 [.ro, .ro] [.sl false 1 (l.map iT), .i .i64 n] [.b (decide (colsP l n))] [] := by
  refine mk_contract [] Tryz.func118 (c := Tryz.f118.body.get!) (by kernel_rfl) k118 r118 (of_decide_eq_true rfl) fun _ => ?_
  have wn : IntKind.i64.wrap ((n : Int) - 1) = n - 1 := wrap_id (by omega) (by omega)
  unfold c118; simp
  refine twp_for l.length (fun j s => s.t 0 = .sl false 1 (l.map iT) ∧ s.t 1 = .i .i64 n ∧ s.t 7 = .sl false 1 (l.map iT) ∧ s.t 8 = .i .i64 l.length ∧ s.t 9 = .i .i64 j ∧ colsP (l.take j) n ∧ s.H = lk [(1, [])]) [] (by simp) ?_ ?_
  · simp [colsP_nil]
  · rintro j s hj ⟨q0, q1, q7, q8, q9, hc, qH⟩
    rw [nf_of qH]
    simp [q0, q1, q7, q8, q9]
    refine ⟨fun hlt => ?_, fun hge => ?_⟩
    · have hw : IntKind.i64.wrap (j + 1) = j + 1 := wrap_id (by omega) (by omega)
      obtain ⟨x, hx⟩ := get_some hlt
      simp [hx, q0, q1, q7, q8, q9, wn]
      have hno : ¬ colsP (l.take (j + 1)) n → ¬ colsP l n := fun h h2 => h (colsP_take h2 _)
      by_cases hr : 0 ≤ x ∧ x ≤ (n : Int) - 1
      · rcases j with _ | j
        · refine callW_ms [.ro, .ro, .ro] ?_
          simp
          refine callX_of ((w54 _ _ _).t hr) (by simp) ?_
          simp [hw, q0, q1, q7, q8, q9]
          exact ⟨by omega, by decide, (colsP_one hx).2 hr⟩
        · obtain ⟨y, hy⟩ := get_some (show j < l.length by omega)
          have wj : IntKind.i64.wrap (((j + 1 : Nat) : Int) - 1) = j := by rw [wrap_id (by omega) (by omega)]; omega
          have wj2 : IntKind.i64.wrap (j : Int) = j := wrap_id (by omega) (by omega)
          refine callW_ms [.ro, .ro, .ro] ?_
          simp
          refine callX_of ((w54 _ _ _).t hr) (by simp) ?_
          simp [hw, wj, wj2, hx, hy, q0, q1, q7, q8, q9]
          have hs := colsP_snoc hc hy hx
          refine ⟨fun h => hno fun h2 => by have := (hs.1 h2).2; omega, fun h => ⟨by omega, wrap_id (by omega) (by omega), hs.2 ⟨hr, h⟩⟩⟩
      · refine callW_ms [.ro, .ro, .ro] ?_
        simp
        refine callX_of ((w54 _ _ _).f hr) (by simp) ?_
        simp [hw, q0, q1, q7, q8, q9]
        exact fun h => hr (h.1 x (List.mem_of_getElem? hx))
    · obtain rfl : j = l.length := by omega
      simpa using hc
theorem w110 (l : List Int) (n : Nat) (hl : l.length ≤ 2^40) (hn : n ≤ 2^40) : Contract Tryz.prog false 110 [.ro, .ro] [.sl false 1 (l.map iT), .i .i64 n] [.b (decide (colsP l n))] [] := by
  refine mk_contract [] Tryz.func110 (c := Tryz.f110.body.get!) (by kernel_rfl) k110 r110 (of_decide_eq_true rfl) fun _ => ?_
  have wn : IntKind.i64.wrap ((n : Int) - 1) = n - 1 := wrap_id (by omega) (by omega)
  unfold c110; simp
  refine twp_for l.length (fun j s => s.t 0 = .sl false 1 (l.map iT) ∧ s.t 1 = .i .i64 n ∧ s.t 5 = .i .i64 j ∧ colsP (l.take j) n ∧ s.H = lk [(1, [])]) [] (by simp) ?_ ?_
  · simp [colsP_nil]
  · rintro j s hj ⟨q0, q1, q5, hc, qH⟩
    rw [nf_of qH]
    simp [q0, q1, q5]
    refine ⟨fun hlt => ?_, fun hge => ?_⟩
    · have hw : IntKind.i64.wrap (j + 1) = j + 1 := wrap_id (by omega) (by omega)
      obtain ⟨x, hx⟩ := get_some hlt
      simp [hx, q0, q1, q5, wn]
      have hno : ¬ colsP (l.take (j + 1)) n → ¬ colsP l n := fun h h2 => h (colsP_take h2 _)
      by_cases hr : 0 ≤ x ∧ x ≤ (n : Int) - 1
      · rcases j with _ | j
        · refine callW_ms [.ro, .ro, .ro] ?_
          simp
          refine callX_of ((w52 _ _ _).t hr) (by simp) ?_
          simp [hw, q0, q1, q5]
          exact ⟨by omega, by decide, (colsP_one hx).2 hr⟩
        · obtain ⟨y, hy⟩ := get_some (show j < l.length by omega)
          have wj : IntKind.i64.wrap (((j + 1 : Nat) : Int) - 1) = j := by rw [wrap_id (by omega) (by omega)]; omega
          have wj2 : IntKind.i64.wrap (j : Int) = j := wrap_id (by omega) (by omega)
          have p0 : (0 : Int) ≤ (j : Int) + 1 := by omega
          refine callW_ms [.ro, .ro, .ro] ?_
          simp
          refine callX_of ((w52 _ _ _).t hr) (by simp) ?_
          simp [hw, wj, wj2, hx, hy, p0, q0, q1, q5]
          have hs := colsP_snoc hc hy hx
          refine ⟨fun h => hno fun h2 => by have := (hs.1 h2).2; omega, fun h => ⟨by omega, wrap_id (by omega) (by omega), hs.2 ⟨hr, h⟩⟩⟩
      · refine callW_ms [.ro, .ro, .ro] ?_
        simp
        refine callX_of ((w52 _ _ _).f hr) (by simp) ?_
        simp [hw, q0, q1, q5]
        exact fun h => hr (h.1 x (List.mem_of_getElem? hx))
    · obtain rfl : j = l.length := by omega
      simpa using hc
end Go.Proofs.YtehmdblkkpdmoaaGreatT


namespace Go.Proofs.YtehmdblkkpdmoaaGreatT
set_option linter.unusedVariables false
set_option linter.unusedSimpArgs false
open Go
end Go.Proofs.YtehmdblkkpdmoaaGreatT


namespace Go.Proofs.YtehmdblkkpdmoaaGreatT
set_option linter.unusedVariables false
set_option linter.unusedSimpArgs false
open Go
def c122 : TCode := (.seq (.ops [⟨(some 3), 5, .box 2 (.t 1), none, []⟩, ⟨(some 4), 6, .mv (.c (.i .i64 0)), none, []⟩])
  (.seq (.seq (.ops [⟨(some 6), 8, .mv (.t 0), none, []⟩, ⟨(some 7), 9, .len false (.t 6), none, []⟩, ⟨(some 8), 10, .mv (.c (.i .i64 0)), none, []⟩])
  (.block 0 (.loop (.seq (.ops [⟨(some 9), 11, .bin .lss (.t 8) (.t 7), none, []⟩])
  (.seq (.cond (.t 9)
  .skip
  (.exit 0))
  (.seq (.block 1 (.seq (.ops [⟨(some 10), 12, .mv (.t 8), none, []⟩, ⟨(some 5), 7, .mv (.t 10), none, []⟩])
  (.seq (.draw [⟨(some 11), 13, .load true 2 (.t 3), none, []⟩, ⟨(some 12), 14, .mv (.t 0), none, []⟩, ⟨(some 13), 15, .mv (.t 5), none, []⟩, ⟨(some 14), 16, .iaddr 2 (.t 12) (.t 13), none, []⟩, ⟨(some 15), 17, .load true 2 (.t 14), none, []⟩, ⟨(some 16), 18, .eqs false true [.i, .i] (.t 11) (.t 15), none, []⟩])
  (.cond (.t 16)
  (.seq (.ops [⟨(some 17), 19, .mv (.t 5), none, []⟩, ⟨(some 4), 6, .mv (.t 17), none, []⟩])
  .ret)
  .skip))))
  (.ops [⟨(some 18), 20, .bin .add (.t 8) (.c (.i .i64 1)), none, []⟩, ⟨(some 8), 10, .mv (.t 18), none, []⟩])))))))
  (.seq (.ops [⟨(some 4), 6, .mv (.c (.i .i64 (-1))), none, []⟩])
  .ret)))
theorem k122 : compCode Tryz.prog Tryz.f122.ntmps Tryz.f122.body.get! = some c122 := by kernel_rfl
theorem r122 : resTmps Tryz.prog Tryz.f122.results.toList = some [.tmp 4] := by kernel_rfl
def c68 : TCode := (.seq (.ops [⟨(some 2), 4, .box 4 (.t 0), none, []⟩, ⟨(some 3), 5, .box 2 (.t 1), none, []⟩, ⟨(some 4), 6, .mv (.c (.i .i64 0)), none, []⟩, ⟨(some 5), 7, .mv (.c (.i .i64 0)), none, []⟩])
  (.seq (.seq (.ops [⟨(some 6), 8, .mv (.c (.i .i64 0)), none, []⟩])
  (.block 0 (.loop (.seq (.seq (.ops [⟨(some 8), 10, .mv (.t 6), none, []⟩, ⟨(some 9), 11, .faddr 2 1 (.t 2), none, []⟩, ⟨(some 10), 12, .load false 1 (.t 9), none, []⟩, ⟨(some 11), 13, .len false (.t 10), none, []⟩, ⟨(some 12), 14, .bin .lss (.t 8) (.t 11), none, []⟩])
  (.cond (.t 12)
  .skip
  (.exit 0)))
  (.seq (.block 1 (.seq (.ops [⟨(some 7), 9, .mv (.c (.i .i64 0)), none, []⟩])
  (.block 2 (.loop (.seq (.seq (.ops [⟨(some 15), 17, .mv (.t 7), none, []⟩, ⟨(some 16), 18, .faddr 2 1 (.t 2), none, []⟩, ⟨(some 17), 19, .load false 1 (.t 16), none, []⟩, ⟨(some 18), 20, .mv (.t 6), none, []⟩, ⟨(some 19), 21, .iaddr 3 (.t 17) (.t 18), none, []⟩, ⟨(some 20), 22, .faddr 1 1 (.t 19), none, []⟩, ⟨(some 21), 23, .load false 1 (.t 20), none, []⟩, ⟨(some 22), 24, .len false (.t 21), none, []⟩, ⟨(some 23), 25, .bin .lss (.t 15) (.t 22), none, []⟩])
  (.cond (.t 23)
  .skip
  (.exit 2)))
  (.seq (.block 3 (.seq (.draw [⟨(some 26), 28, .faddr 2 1 (.t 2), none, []⟩, ⟨(some 27), 29, .load false 1 (.t 26), none, []⟩, ⟨(some 28), 30, .mv (.t 6), none, []⟩, ⟨(some 29), 31, .iaddr 3 (.t 27) (.t 28), none, []⟩, ⟨(some 30), 32, .faddr 1 1 (.t 29), none, []⟩, ⟨(some 31), 33, .load false 1 (.t 30), none, []⟩, ⟨(some 32), 34, .mv (.t 7), none, []⟩, ⟨(some 33), 35, .iaddr 2 (.t 31) (.t 32), none, []⟩, ⟨(some 34), 36, .load true 2 (.t 33), none, []⟩, ⟨(some 35), 37, .load true 2 (.t 3), none, []⟩, ⟨(some 36), 38, .eqs false true [.i, .i] (.t 34) (.t 35), none, []⟩])
  (.cond (.t 36)
  (.seq (.ops [⟨(some 37), 39, .mv (.t 6), none, []⟩, ⟨(some 38), 40, .mv (.t 7), none, []⟩, ⟨(some 4), 6, .mv (.t 37), none, []⟩, ⟨(some 5), 7, .mv (.t 38), none, []⟩])
  .ret)
  .skip)))
  (.ops [⟨(some 24), 26, .mv (.t 7), none, []⟩, ⟨(some 25), 27, .bin .add (.t 24) (.c (.i .i64 1)), none, []⟩, ⟨(some 7), 9, .mv (.t 25), none, []⟩])))))))
  (.ops [⟨(some 13), 15, .mv (.t 6), none, []⟩, ⟨(some 14), 16, .bin .add (.t 13) (.c (.i .i64 1)), none, []⟩, ⟨(some 6), 8, .mv (.t 14), none, []⟩]))))))
  (.seq (.ops [⟨(some 4), 6, .mv (.c (.i .i64 (-1))), none, []⟩, ⟨(some 5), 7, .mv (.c (.i .i64 (-1))), none, []⟩])
  .ret)))
theorem k68 : compCode Tryz.prog Tryz.f68.ntmps Tryz.f68.body.get! = some c68 := by kernel_rfl
theorem r68 : resTmps Tryz.prog Tryz.f68.results.toList = some [.tmp 4, .tmp 5] := by kernel_rfl
def c85 : TCode := (.seq (.ops [⟨(some 2), 4, .box 4 (.t 0), none, []⟩, ⟨(some 3), 5, .box 2 (.t 1), none, []⟩, ⟨(some 4), 6, .mv (.c (.i .i64 0)), none, []⟩, ⟨(some 5), 7, .mv (.c (.i .i64 0)), none, []⟩])
  (.seq (.seq (.ops [⟨(some 8), 10, .faddr 2 1 (.t 2), none, []⟩, ⟨(some 9), 11, .load false 1 (.t 8), none, []⟩, ⟨(some 10), 12, .len false (.t 9), none, []⟩, ⟨(some 11), 13, .mv (.c (.i .i64 0)), none, []⟩])
  (.block 0 (.loop (.seq (.ops [⟨(some 12), 14, .bin .lss (.t 11) (.t 10), none, []⟩])
  (.seq (.cond (.t 12)
  .skip
  (.exit 0))
  (.seq (.block 1 (.seq (.ops [⟨(some 13), 15, .mv (.t 11), none, []⟩, ⟨(some 6), 8, .mv (.t 13), none, []⟩])
  (.seq (.draw [⟨(some 14), 16, .faddr 2 1 (.t 2), none, []⟩, ⟨(some 15), 17, .load false 1 (.t 14), none, []⟩, ⟨(some 16), 18, .mv (.t 6), none, []⟩, ⟨(some 17), 19, .iaddr 3 (.t 15) (.t 16), none, []⟩, ⟨(some 18), 20, .faddr 1 1 (.t 17), none, []⟩, ⟨(some 19), 21, .load false 1 (.t 18), none, []⟩, ⟨(some 20), 22, .load true 2 (.t 3), none, []⟩, ⟨(some 21), 23, .call 122 [((.t 19), 0), ((.t 20), 0)], none, []⟩, ⟨(some 7), 9, .mv (.t 21), none, []⟩])
  (.seq (.ops [⟨(some 22), 24, .mv (.t 7), none, []⟩, ⟨(some 23), 25, .bin .geq (.t 22) (.c (.i .i64 0)), none, []⟩])
  (.cond (.t 23)
  (.seq (.ops [⟨(some 24), 26, .mv (.t 6), none, []⟩, ⟨(some 25), 27, .mv (.t 7), none, []⟩, ⟨(some 4), 6, .mv (.t 24), none, []⟩, ⟨(some 5), 7, .mv (.t 25), none, []⟩])
  .ret)
  .skip)))))
  (.ops [⟨(some 26), 28, .bin .add (.t 11) (.c (.i .i64 1)), none, []⟩, ⟨(some 11), 13, .mv (.t 26), none, []⟩])))))))
  (.seq (.ops [⟨(some 4), 6, .mv (.c (.i .i64 (-1))), none, []⟩, ⟨(some 5), 7, .mv (.c (.i .i64 (-1))), none, []⟩])
  .ret)))
theorem k85 : compCode Tryz.prog Tryz.f85.ntmps Tryz.f85.body.get! = some c85 := by kernel_rfl
theorem r85 : resTmps Tryz.prog Tryz.f85.results.toList = some [.tmp 4, .tmp 5] := by kernel_rfl
def isE (e : Int × Int) (r : Int × Int) : Bool := decide (r = e)
def noI (e : Int × Int) (l : List (Int × Int)) : Prop := ∀ y ∈ l, isE e y = false
@[simp] theorem noI_nil (e : Int × Int) : noI e [] := fun y h => by cases h
def noE (e : Int × Int) (ts : List TableP) : Prop := ∀ t ∈ ts, ¬ 0 ≤ idxP (isE e) t.2.1
@[simp] theorem noE_nil (e : Int × Int) : noE e [] := fun y h => by cases h
theorem noE_snoc {e : Int × Int} {ts : List TableP} {t : TableP} {j : Nat} (h : noE e (ts.take j)) (ht : ts[j]? = some t) (hi : idxP (isE e) t.2.1 < 0) : noE e (ts.take (j + 1)) := by
  intro z hz
  rw [take_snoc ht] at hz
  rcases List.mem_append.1 hz with h' | h'
  · exact h z h'
  · simp at h'; subst h'; omega
def whereG (e : Int × Int) : List TableP → Nat → Int × Int
  | [], _ => (-1, -1)
  | t :: ts, i => if 0 ≤ idxP (isE e) t.2.1 then ((i : Int), idxP (isE e) t.2.1) else whereG e ts (i + 1)
theorem whereG_end {e : Int × Int} {i : Nat} {ts : List TableP} (h : ∀ t ∈ ts, ¬ 0 ≤ idxP (isE e) t.2.1) : whereG e ts i = (-1, -1) := by
  induction ts generalizing i with
  | nil => rfl
  | cons t ts ih =>
    simp only [whereG, if_neg (h t List.mem_cons_self)]
    exact ih fun t ht => h t (List.mem_cons_of_mem _ ht)
theorem whereG_at {e : Int × Int} {t : TableP} : ∀ {j : Nat} {i : Nat} {ts : List TableP}, (∀ t ∈ ts.take j, ¬ 0 ≤ idxP (isE e) t.2.1) → ts[j]? = some t → 0 ≤ idxP (isE e) t.2.1 → whereG e ts i = (((i + j : Nat) : Int), idxP (isE e) t.2.1)
  | 0, i, t0 :: ts, h, ht, hp => by
    simp only [List.getElem?_cons_zero, Option.some.injEq] at ht; subst ht
    simp only [whereG, if_pos hp, Nat.add_zero]
  | j + 1, i, t0 :: ts, h, ht, hp => by
    simp only [whereG, if_neg (h t0 (by simp))]
    rw [whereG_at (j := j) (fun t ht => h t (by simp only [List.take_succ_cons]; exact List.mem_cons_of_mem _ ht)) (by simpa using ht) hp]
    congr 2; omega
  | 0, i, [], h, ht, hp => by simp at ht
  | j + 1, i, [], h, ht, hp => by simp at ht
theorem w122 (l : List (Int × Int)) (e : Int × Int) (hl : l.length ≤ 2^40) : Contract Tryz.prog false 122 [.ro, .ro] [.sl false 2 (l.map eT), .ag (eT e)] [.i .i64 (idxP (isE e) l)] [] := by
  refine mk_contract [] Tryz.func122 (c := Tryz.f122.body.get!) (by kernel_rfl) k122 r122 (of_decide_eq_true rfl) fun _ => ?_
  unfold c122; simp
  refine twp_for l.length (fun j s => s.t 0 = .sl false 2 (l.map eT) ∧ s.t 3 = .pt [(5, 0)] 0 0 ∧ s.t 7 = .i .i64 l.length ∧ s.t 8 = .i .i64 j ∧ noI e (l.take j) ∧ s.H = lk [(1, []), (5, [.po true (eT e)])]) [] (by simp) ?_ ?_
  · simp
  · rintro j s hj ⟨q0, q3, q7, q8, hn, qH⟩
    rw [nf_of qH]
    simp [q0, q3, q7, q8]
    refine ⟨fun hlt => ?_, fun hge => ?_⟩
    · have hw : IntKind.i64.wrap (j + 1) = j + 1 := wrap_id (by omega) (by omega)
      obtain ⟨y, hy⟩ := get_some hlt
      simp [hy, hw, q0, q3, q7, q8]
      by_cases hey : y = e
      · subst hey
        simp [hw, q0, q3, q7, q8]
        exact (idxP_at hy (by simp [isE]) hn).symm
      · have hne : (decide (e.1 = y.1) && decide (e.2 = y.2)) = false := by
          rw [Bool.eq_false_iff]; intro h
          simp only [Bool.and_eq_true, decide_eq_true_eq] at h
          exact hey (Prod.ext h.1.symm h.2.symm)
        have hs : noI e (l.take (j + 1)) := by
          intro z hz
          rw [take_snoc hy] at hz
          rcases List.mem_append.1 hz with h | h
          · exact hn z h
          · simp at h; subst h; simp [isE, hey]
        simp [hne, hw, q0, q3, q7, q8]
        exact ⟨hlt, hs⟩
    · obtain rfl : j = l.length := by omega
      rw [List.take_of_length_le (Nat.le_refl _)] at hn
      exact (idxP_none hn).symm
theorem w85 (w : WorldP) (e : Int × Int) (h : okW w) : Contract Tryz.prog false 85 [.ro, .ro] [worldR w.1 w.2.1 w.2.2.1 w.2.2.2, .ag (eT e)] [.i .i64 (whereG e w.2.2.1 0).1, .i .i64 (whereG e w.2.2.1 0).2] [] := by
  refine mk_contract [] Tryz.func85 (c := Tryz.f85.body.get!) (by kernel_rfl) k85 r85 (of_decide_eq_true rfl) fun _ => ?_
  obtain ⟨h1, h2, ⟨h3, h4⟩, h5⟩ := h
  obtain ⟨g, f, ts, rs⟩ := w
  simp only at h1 h2 h3 h4 h5 ⊢
  unfold c85; simp
  refine twp_for ts.length (fun j s => s.t 2 = .pt [(4, 0)] 0 0 ∧ s.t 3 = .pt [(5, 0)] 0 0 ∧ s.t 10 = .i .i64 ts.length ∧ s.t 11 = .i .i64 j ∧ noE e (ts.take j) ∧ s.H = lk [(1, []), (4, [.po true [.sl false 1 (g.map iT), .sl false 1 (f.map iT), .sl false 3 (ts.map tbT), .sl false 4 (rs.map vT)]]), (5, [.po true (eT e)])]) [] (by simp) ?_ ?_
  · simp
  · rintro j s hj ⟨q2, q3, q10, q11, hn, qH⟩
    rw [nf_of qH]
    simp [q2, q3, q10, q11]
    refine ⟨fun hlt => ?_, fun hge => ?_⟩
    · have hw : IntKind.i64.wrap (j + 1) = j + 1 := wrap_id (by omega) (by omega)
      obtain ⟨t, ht⟩ := get_some hlt
      have hm := List.mem_of_getElem? ht
      simp [ht, hw, q2, q3, q10, q11]
      refine callW_ms [.ro, .ro] ?_
      simp
      refine callX_of (w122 t.2.1 e (by have := (h4 t hm).2.1; omega)) (by simp) ?_
      simp [hw, q2, q3, q10, q11]
      refine ⟨fun hp => ?_, fun hp => ⟨hlt, noE_snoc hn ht hp⟩⟩
      rw [whereG_at hn ht hp]; simp
    · obtain rfl : j = ts.length := by omega
      rw [List.take_of_length_le (Nat.le_refl _)] at hn
      rw [whereG_end hn]; simp
theorem idxP_take {e : Int × Int} {l : List (Int × Int)} : idxP (isE e) l < 0 ↔ noI e l := by
  constructor
  · intro h z hz
    cases hb : isE e z with
    | false => rfl
    | true => have := (idxP_ge (p := isE e) (l := l)).2 ⟨z, hz, hb⟩; omega
  · intro h; rw [idxP_none h]; omega
theorem w68 (w : WorldP) (e : Int × Int) (h : okW w) : Contract Tryz.prog false 68 [.ro, .ro] [worldR w.1 w.2.1 w.2.2.1 w.2.2.2, .ag (eT e)] [.i .i64 (whereG e w.2.2.1 0).1, .i .i64 (whereG e w.2.2.1 0).2] [] := by
  refine mk_contract [] Tryz.func68 (c := Tryz.f68.body.get!) (by kernel_rfl) k68 r68 (of_decide_eq_true rfl) fun _ => ?_
  obtain ⟨h1, h2, ⟨h3, h4⟩, h5⟩ := h
  obtain ⟨g, f, ts, rs⟩ := w
  simp only at h1 h2 h3 h4 h5 ⊢
  unfold c68; simp
  refine twp_for ts.length (fun j s => s.t 2 = .pt [(4, 0)] 0 0 ∧ s.t 3 = .pt [(5, 0)] 0 0 ∧ s.t 6 = .i .i64 j ∧ noE e (ts.take j) ∧ s.H = lk [(1, []), (4, [.po true [.sl false 1 (g.map iT), .sl false 1 (f.map iT), .sl false 3 (ts.map tbT), .sl false 4 (rs.map vT)]]), (5, [.po true (eT e)])]) [] (by simp) ?_ ?_
  · simp
  · rintro j s hj ⟨q2, q3, q6, hn, qH⟩
    rw [nf_of qH]
    simp [q2, q3, q6]
    refine ⟨fun hlt => ?_, fun hge => ?_⟩
    · have hw : IntKind.i64.wrap (j + 1) = j + 1 := wrap_id (by omega) (by omega)
      obtain ⟨t, ht⟩ := get_some hlt
      have hm := List.mem_of_getElem? ht
      have hl := (h4 t hm).2.1
      refine twp_for t.2.1.length (fun i s2 => s2.t 2 = .pt [(4, 0)] 0 0 ∧ s2.t 3 = .pt [(5, 0)] 0 0 ∧ s2.t 6 = .i .i64 j ∧ s2.t 7 = .i .i64 i ∧ noI e (t.2.1.take i) ∧ s2.H = lk [(1, []), (4, [.po true [.sl false 1 (g.map iT), .sl false 1 (f.map iT), .sl false 3 (ts.map tbT), .sl false 4 (rs.map vT)]]), (5, [.po true (eT e)])]) [] (by simp) ?_ ?_
      · simp [q2, q3, q6]
      · rintro i s2 hi ⟨p2, p3, p6, p7, hni, pH⟩
        rw [nf_of pH]
        simp [p2, p3, p6, p7]
        simp [ht]
        refine ⟨fun hlt2 => ?_, fun hge2 => ?_⟩
        · have hwi : IntKind.i64.wrap (i + 1) = i + 1 := wrap_id (by omega) (by omega)
          obtain ⟨y, hy⟩ := get_some hlt2
          simp [ht, hy, p2, p3, p6, p7]
          by_cases hey : y = e
          · subst hey
            have hx := idxP_at hy (by simp [isE]) hni
            simp [p2, p3, p6, p7]
            rw [whereG_at hn ht (by omega), hx]; simp
          · have hne : (decide (y.1 = e.1) && decide (y.2 = e.2)) = false := by
              rw [Bool.eq_false_iff]; intro h
              simp only [Bool.and_eq_true, decide_eq_true_eq] at h
              exact hey (Prod.ext h.1 h.2)
            have hs : noI e (t.2.1.take (i + 1)) := by
              intro z hz
              rw [take_snoc hy] at hz
              rcases List.mem_append.1 hz with h | h
              · exact hni z h
              · simp at h; subst h; simp [isE, hey]
            simp [hne, hwi, p2, p3, p6, p7]
            exact ⟨hlt2, hs⟩
        · obtain rfl : i = t.2.1.length := by omega
          rw [List.take_of_length_le (Nat.le_refl _)] at hni
          simp [p2, p3, p6, p7, hw]
          exact ⟨hlt, noE_snoc hn ht (idxP_take.2 hni)⟩
    · obtain rfl : j = ts.length := by omega
      rw [List.take_of_length_le (Nat.le_refl _)] at hn
      rw [whereG_end hn]; simp
end Go.Proofs.YtehmdblkkpdmoaaGreatT


namespace Go.Proofs.YtehmdblkkpdmoaaGreatT
set_option linter.unusedVariables false
set_option linter.unusedSimpArgs false
open Go
def c81 : TCode := (.seq (.ops [⟨(some 2), 4, .box 4 (.t 0), none, []⟩, ⟨(some 4), 6, .mv (.c (.b false)), none, []⟩])
  (.seq (.ops [⟨(some 5), 7, .faddr 0 1 (.t 2), none, []⟩, ⟨(some 6), 8, .load false 1 (.t 5), none, []⟩, ⟨(some 7), 9, .mv (.t 1), none, []⟩, ⟨(some 8), 10, .bin .eql (.t 6) (.t 7), none, []⟩, ⟨(some 9), 11, .mv (.t 8), none, []⟩, ⟨(some 10), 12, .load true 4 (.t 2), (some (9, true)), []⟩, ⟨(some 11), 13, .call 120 [((.t 10), 0)], (some (9, true)), []⟩, ⟨(some 12), 14, .pick (.t 9) (.t 11) (.c (.b false)), none, []⟩, ⟨(some 4), 6, .mv (.t 12), none, []⟩])
  .ret))
theorem k81 : compCode Tryz.prog Tryz.f81.ntmps Tryz.f81.body.get! = some c81 := by kernel_rfl
theorem r81 : resTmps Tryz.prog Tryz.f81.results.toList = some [.tmp 4] := by kernel_rfl
abbrev StrP := Int × List ValP × List ValP
def valsF (l : List ValP) : Prop := ∀ v ∈ l, valOkF v
def ofK (k : Int) (v : ValP) : Prop := v.1 = k ∧ ValOkP v
instance (k : Int) (v : ValP) : Decidable (ofK k v) := by unfold ofK; infer_instance
def allOf (k : Int) (l : List ValP) : Prop := (∀ v ∈ l, ofK k v) ∧ l.length ≤ 200
instance (k : Int) (l : List ValP) : Decidable (allOf k l) := by unfold allOf; infer_instance
def StrOkP (k : Int) (s : StrP) : Prop := (0 ≤ s.1 ∧ s.1 ≤ 1000000000000) ∧ allOf k s.2.1 ∧ allOf k s.2.2
instance (k : Int) (s : StrP) : Decidable (StrOkP k s) := by unfold StrOkP; infer_instance
theorem w81 (v : ValP) (k : Int) : Contract Tryz.prog false 81 [.ro, .ro] [valV v, .i .i64 k] [.b (decide (ofK k v))] [] := by
  refine mk_contract [] Tryz.func81 (c := Tryz.f81.body.get!) (by kernel_rfl) k81 r81 (of_decide_eq_true rfl) fun _ => ?_
  obtain ⟨v1, v2⟩ := v
  unfold c81; unfold valV; simp
  by_cases h : v1 = k
  · subst h
    simp
    refine callW_ms [.ro] ?_
    simp
    refine callX_of (w120 (v1, v2)) (by simp) ?_
    simp [ofK]
  · simp [h, ofK]
end Go.Proofs.YtehmdblkkpdmoaaGreatT


namespace Go.Proofs.YtehmdblkkpdmoaaGreatT
set_option linter.unusedVariables false
set_option linter.unusedSimpArgs false
open Go
def c64 : TCode := (.seq (.ops [⟨(some 4), 6, .mv (.c (.b false)), none, []⟩])
  (.seq (.seq (.ops [⟨(some 6), 8, .mv (.t 0), none, []⟩, ⟨(some 7), 9, .len false (.t 6), none, []⟩, ⟨(some 8), 10, .mv (.t 1), none, []⟩, ⟨(some 9), 11, .len false (.t 8), none, []⟩, ⟨(some 10), 12, .bin .neq (.t 7) (.t 9), none, []⟩])
  (.cond (.t 10)
  (.seq (.ops [⟨(some 4), 6, .mv (.c (.b false)), none, []⟩])
  .ret)
  .skip))
  (.seq (.seq (.ops [⟨(some 5), 7, .mv (.c (.i .i64 0)), none, []⟩])
  (.block 0 (.loop (.seq (.seq (.ops [⟨(some 11), 13, .mv (.t 5), none, []⟩, ⟨(some 12), 14, .mv (.t 0), none, []⟩, ⟨(some 13), 15, .len false (.t 12), none, []⟩, ⟨(some 14), 16, .bin .lss (.t 11) (.t 13), none, []⟩])
  (.cond (.t 14)
  .skip
  (.exit 0)))
  (.seq (.block 1 (.seq (.draw [⟨(some 17), 19, .mv (.t 0), none, []⟩, ⟨(some 18), 20, .mv (.t 5), none, []⟩, ⟨(some 19), 21, .iaddr 1 (.t 17) (.t 18), none, []⟩, ⟨(some 20), 22, .load false 1 (.t 19), none, []⟩, ⟨(some 21), 23, .mv (.t 1), none, []⟩, ⟨(some 22), 24, .mv (.t 5), none, []⟩, ⟨(some 23), 25, .iaddr 1 (.t 21) (.t 22), none, []⟩, ⟨(some 24), 26, .load false 1 (.t 23), none, []⟩, ⟨(some 25), 27, .bin .neq (.t 20) (.t 24), none, []⟩])
  (.cond (.t 25)
  (.seq (.ops [⟨(some 4), 6, .mv (.c (.b false)), none, []⟩])
  .ret)
  .skip)))
  (.ops [⟨(some 15), 17, .mv (.t 5), none, []⟩, ⟨(some 16), 18, .bin .add (.t 15) (.c (.i .i64 1)), none, []⟩, ⟨(some 5), 7, .mv (.t 16), none, []⟩]))))))
  (.seq (.ops [⟨(some 4), 6, .mv (.c (.b true)), none, []⟩])
  .ret))))
theorem k64 : compCode Tryz.prog Tryz.f64.ntmps Tryz.f64.body.get! = some c64 := by kernel_rfl
theorem r64 : resTmps Tryz.prog Tryz.f64.results.toList = some [.tmp 4] := by kernel_rfl
def c119 : TCode := (.seq (.ops [⟨(some 4), 6, .mv (.c (.b false)), none, []⟩])
  (.seq (.seq (.ops [⟨(some 6), 8, .mv (.t 0), none, []⟩, ⟨(some 7), 9, .len false (.t 6), none, []⟩, ⟨(some 8), 10, .mv (.t 1), none, []⟩, ⟨(some 9), 11, .len false (.t 8), none, []⟩, ⟨(some 10), 12, .bin .neq (.t 7) (.t 9), none, []⟩])
  (.cond (.t 10)
  (.seq (.ops [⟨(some 4), 6, .mv (.c (.b false)), none, []⟩])
  .ret)
  .skip))
  (.seq (.seq (.ops [⟨(some 11), 13, .mv (.t 0), none, []⟩, ⟨(some 12), 14, .len false (.t 11), none, []⟩, ⟨(some 13), 15, .mv (.c (.i .i64 0)), none, []⟩])
  (.block 0 (.loop (.seq (.ops [⟨(some 14), 16, .bin .lss (.t 13) (.t 12), none, []⟩])
  (.seq (.cond (.t 14)
  .skip
  (.exit 0))
  (.seq (.block 1 (.seq (.ops [⟨(some 15), 17, .mv (.t 13), none, []⟩, ⟨(some 5), 7, .mv (.t 15), none, []⟩])
  (.seq (.draw [⟨(some 16), 18, .mv (.t 0), none, []⟩, ⟨(some 17), 19, .mv (.t 5), none, []⟩, ⟨(some 18), 20, .iaddr 1 (.t 16) (.t 17), none, []⟩, ⟨(some 19), 21, .load false 1 (.t 18), none, []⟩, ⟨(some 20), 22, .mv (.t 1), none, []⟩, ⟨(some 21), 23, .mv (.t 5), none, []⟩, ⟨(some 22), 24, .iaddr 1 (.t 20) (.t 21), none, []⟩, ⟨(some 23), 25, .load false 1 (.t 22), none, []⟩, ⟨(some 24), 26, .bin .neq (.t 19) (.t 23), none, []⟩])
  (.cond (.t 24)
  (.seq (.ops [⟨(some 4), 6, .mv (.c (.b false)), none, []⟩])
  .ret)
  .skip))))
  (.ops [⟨(some 25), 27, .bin .add (.t 13) (.c (.i .i64 1)), none, []⟩, ⟨(some 13), 15, .mv (.t 25), none, []⟩])))))))
  (.seq (.ops [⟨(some 4), 6, .mv (.c (.b true)), none, []⟩])
  .ret))))
theorem k119 : compCode Tryz.prog Tryz.f119.ntmps Tryz.f119.body.get! = some c119 := by kernel_rfl
theorem r119 : resTmps Tryz.prog Tryz.f119.results.toList = some [.tmp 4] := by kernel_rfl
theorem fzLL_map2 {α : Type} {f g : α → List TV} (h : ∀ x, fzL (f x) = g x) (l : List α) : fzLL (l.map f) = l.map g := by
  induction l with
  | nil => rfl
  | cons a l ih => simp [fzLL, h, ih]
abbrev NodeP := Int × ByteArray × Int × List Int
@[simp] def nT (x : NodeP) : List TV := [.i .i64 x.1, .s x.2.1, .i .i64 x.2.2.1, .sl false 1 (x.2.2.2.map iT)]
@[simp] def nO (x : NodeP) : List TV := [.i .i64 x.1, .s x.2.1, .i .i64 x.2.2.1, .sl true 1 (x.2.2.2.map iT)]
@[simp] theorem fzL_nT (x : NodeP) : fzL (nT x) = nT x := by simp
@[simp] theorem fzL_nO (x : NodeP) : fzL (nO x) = nT x := by simp
@[simp] theorem fzLL_nT (l : List NodeP) : fzLL (l.map nT) = l.map nT := fzLL_map fzL_nT l
@[simp] theorem fzLL_nO (l : List NodeP) : fzLL (l.map nO) = l.map nT := fzLL_map2 fzL_nO l
@[simp] theorem noROLL_nO (l : List NodeP) : noROLL (l.map nO) = true := noROLL_map (fun _ => by simp [noROL, noRO]) l
@[simp] theorem noref_nT (l : List NodeP) : (l.map nT).all (·.all noref) = true := noref_map (fun _ => by simp) l
theorem w64 (a b : List Int) (ha : a.length ≤ 2^40) (hb : b.length ≤ 2^40) : Contract Tryz.prog false 64 [.ro, .ro] [.sl false 1 (a.map iT), .sl false 1 (b.map iT)] [.b (decide (a = b))] [] := by
  refine mk_contract [] Tryz.func64 (c := Tryz.f64.body.get!) (by kernel_rfl) k64 r64 (of_decide_eq_true rfl) fun _ => ?_
  unfold c64; simp
  refine ⟨fun h => ?_, fun h => ?_⟩
  · refine twp_for a.length (fun j s => s.t 0 = .sl false 1 (a.map iT) ∧ s.t 1 = .sl false 1 (b.map iT) ∧ s.t 5 = .i .i64 j ∧ a.take j = b.take j ∧ s.H = lk [(1, [])]) [] (by simp) ?_ ?_
    · simp
    · rintro j s hj ⟨q0, q1, q5, hab, qH⟩
      rw [nf_of qH]
      simp [q0, q1, q5]
      refine ⟨fun hlt => ?_, fun hge => ?_⟩
      · have hw : IntKind.i64.wrap (j + 1) = j + 1 := wrap_id (by omega) (by omega)
        obtain ⟨x, hx⟩ := get_some hlt
        obtain ⟨y, hy⟩ := get_some (l := b) (j := j) (by omega)
        simp [hx, hy, hw, q0, q1, q5]
        refine ⟨fun hxy => ⟨hlt, by rw [take_snoc hx, take_snoc hy, hab, hxy]⟩, fun hxy hab => hxy (by subst hab; simpa [hx] using hy)⟩
      · obtain rfl : j = a.length := by omega
        rw [List.take_of_length_le (Nat.le_refl _), List.take_of_length_le (by omega)] at hab
        exact hab
  · rintro rfl; exact h rfl
theorem w119 (a b : List Int) (ha : a.length ≤ 2^40) (hb : b.length ≤ 2^40) : Contract Tryz.prog false 119 [.ro, .ro] [.sl false 1 (a.map iT), .sl false 1 (b.map iT)] [.b (decide (a = b))] [] := by
  refine mk_contract [] Tryz.func119 (c := Tryz.f119.body.get!) (by kernel_rfl) k119 r119 (of_decide_eq_true rfl) fun _ => ?_
  unfold c119; simp
  refine ⟨fun h => ?_, fun h => ?_⟩
  · refine twp_for a.length (fun j s => s.t 0 = .sl false 1 (a.map iT) ∧ s.t 1 = .sl false 1 (b.map iT) ∧ s.t 12 = .i .i64 a.length ∧ s.t 13 = .i .i64 j ∧ a.take j = b.take j ∧ s.H = lk [(1, [])]) [] (by simp) ?_ ?_
    · simp
    · rintro j s hj ⟨q0, q1, q12, q13, hab, qH⟩
      rw [nf_of qH]
      simp [q0, q1, q12, q13]
      refine ⟨fun hlt => ?_, fun hge => ?_⟩
      · have hw : IntKind.i64.wrap (j + 1) = j + 1 := wrap_id (by omega) (by omega)
        obtain ⟨x, hx⟩ := get_some hlt
        obtain ⟨y, hy⟩ := get_some (l := b) (j := j) (by omega)
        simp [hx, hy, hw, q0, q1, q12, q13]
        refine ⟨fun hxy => ⟨hlt, by rw [take_snoc hx, take_snoc hy, hab, hxy]⟩, fun hxy hab => hxy (by subst hab; simpa [hx] using hy)⟩
      · obtain rfl : j = a.length := by omega
        rw [List.take_of_length_le (Nat.le_refl _), List.take_of_length_le (by omega)] at hab
        exact hab
  · rintro rfl; exact h rfl
end Go.Proofs.YtehmdblkkpdmoaaGreatT


namespace Go.Proofs.YtehmdblkkpdmoaaGreatT
set_option linter.unusedVariables false
set_option linter.unusedSimpArgs false
open Go
def c80 : TCode := (.seq (.ops [⟨(some 4), 6, .mv (.c (.i .i64 0)), none, []⟩])
  (.seq (.seq (.ops [⟨(some 6), 8, .mv (.t 0), none, []⟩, ⟨(some 7), 9, .nilck (.t 6), none, []⟩, ⟨(some 8), 10, .faddr 2 1 (.t 7), none, []⟩, ⟨(some 9), 11, .load false 1 (.t 8), none, []⟩, ⟨(some 10), 12, .len false (.t 9), none, []⟩, ⟨(some 11), 13, .mv (.c (.i .i64 0)), none, []⟩])
  (.block 0 (.loop (.seq (.ops [⟨(some 12), 14, .bin .lss (.t 11) (.t 10), none, []⟩])
  (.seq (.cond (.t 12)
  .skip
  (.exit 0))
  (.seq (.block 1 (.seq (.ops [⟨(some 13), 15, .mv (.t 11), none, []⟩, ⟨(some 5), 7, .mv (.t 13), none, []⟩])
  (.seq (.ops [⟨(some 14), 16, .mv (.t 0), none, []⟩, ⟨(some 15), 17, .nilck (.t 14), none, []⟩, ⟨(some 16), 18, .faddr 2 1 (.t 15), none, []⟩, ⟨(some 17), 19, .load false 1 (.t 16), none, []⟩, ⟨(some 18), 20, .mv (.t 5), none, []⟩, ⟨(some 19), 21, .iaddr 3 (.t 17) (.t 18), none, []⟩, ⟨(some 20), 22, .faddr 0 1 (.t 19), none, []⟩, ⟨(some 21), 23, .load false 1 (.t 20), none, []⟩, ⟨(some 22), 24, .mv (.t 1), none, []⟩, ⟨(some 23), 25, .call 119 [((.t 21), 0), ((.t 22), 0)], none, []⟩])
  (.cond (.t 23)
  (.seq (.ops [⟨(some 24), 26, .mv (.t 5), none, []⟩, ⟨(some 4), 6, .mv (.t 24), none, []⟩])
  .ret)
  .skip))))
  (.ops [⟨(some 25), 27, .bin .add (.t 11) (.c (.i .i64 1)), none, []⟩, ⟨(some 11), 13, .mv (.t 25), none, []⟩])))))))
  (.seq (.ops [⟨(some 4), 6, .mv (.c (.i .i64 (-1))), none, []⟩])
  .ret)))
theorem k80 : compCode Tryz.prog Tryz.f80.ntmps Tryz.f80.body.get! = some c80 := by kernel_rfl
theorem r80 : resTmps Tryz.prog Tryz.f80.results.toList = some [.tmp 4] := by kernel_rfl
def c79 : TCode := (.seq (.ops [⟨(some 3), 5, .box 3 (.t 1), none, []⟩, ⟨(some 4), 6, .mv (.c (.b false)), none, []⟩])
  (.seq (.seq (.draw [⟨(some 9), 11, .faddr 0 1 (.t 3), none, []⟩, ⟨(some 10), 12, .load false 1 (.t 9), none, []⟩, ⟨(some 11), 13, .mv (.t 0), none, []⟩, ⟨(some 12), 14, .nilck (.t 11), none, []⟩, ⟨(some 13), 15, .faddr 0 1 (.t 12), none, []⟩, ⟨(some 14), 16, .load false 1 (.t 13), none, []⟩, ⟨(some 15), 17, .len false (.t 14), none, []⟩, ⟨(some 16), 18, .call 118 [((.t 10), 0), ((.t 15), 0)], none, []⟩, ⟨(some 17), 19, .un .not (.t 16), none, []⟩, ⟨(some 18), 20, .mv (.t 17), none, []⟩, ⟨(some 19), 21, .faddr 2 1 (.t 3), (some (18, false)), []⟩, ⟨(some 20), 22, .load false 1 (.t 19), (some (18, false)), []⟩, ⟨(some 21), 23, .len false (.t 20), (some (18, false)), []⟩, ⟨(some 22), 24, .faddr 0 1 (.t 3), (some (18, false)), []⟩, ⟨(some 23), 25, .load false 1 (.t 22), (some (18, false)), []⟩, ⟨(some 24), 26, .len false (.t 23), (some (18, false)), []⟩, ⟨(some 25), 27, .bin .neq (.t 21) (.t 24), (some (18, false)), []⟩, ⟨(some 26), 28, .pick (.t 18) (.c (.b true)) (.t 25), none, []⟩])
  (.cond (.t 26)
  (.seq (.ops [⟨(some 4), 6, .mv (.c (.b false)), none, []⟩])
  .ret)
  .skip))
  (.seq (.seq (.ops [⟨(some 27), 29, .faddr 0 1 (.t 3), none, []⟩, ⟨(some 28), 30, .load false 1 (.t 27), none, []⟩, ⟨(some 29), 31, .len false (.t 28), none, []⟩, ⟨(some 30), 32, .mv (.c (.i .i64 0)), none, []⟩])
  (.block 0 (.loop (.seq (.ops [⟨(some 31), 33, .bin .lss (.t 30) (.t 29), none, []⟩])
  (.seq (.cond (.t 31)
  .skip
  (.exit 0))
  (.seq (.block 1 (.seq (.ops [⟨(some 32), 34, .mv (.t 30), none, []⟩, ⟨(some 33), 35, .iaddr 1 (.t 28) (.t 30), none, []⟩, ⟨(some 34), 36, .load false 1 (.t 33), none, []⟩, ⟨(some 5), 7, .mv (.t 32), none, []⟩, ⟨(some 6), 8, .mv (.t 34), none, []⟩])
  (.seq (.seq (.draw [⟨(some 35), 37, .faddr 2 1 (.t 3), none, []⟩, ⟨(some 36), 38, .load false 1 (.t 35), none, []⟩, ⟨(some 37), 39, .mv (.t 5), none, []⟩, ⟨(some 38), 40, .iaddr 1 (.t 36) (.t 37), none, []⟩, ⟨(some 39), 41, .load false 1 (.t 38), none, []⟩, ⟨(some 40), 42, .len false (.t 39), none, []⟩, ⟨(some 41), 43, .faddr 1 1 (.t 3), none, []⟩, ⟨(some 42), 44, .load false 1 (.t 41), none, []⟩, ⟨(some 43), 45, .len false (.t 42), none, []⟩, ⟨(some 44), 46, .bin .neq (.t 40) (.t 43), none, []⟩])
  (.cond (.t 44)
  (.seq (.ops [⟨(some 4), 6, .mv (.c (.b false)), none, []⟩])
  .ret)
  .skip))
  (.seq (.ops [⟨(some 45), 47, .faddr 2 1 (.t 3), none, []⟩, ⟨(some 46), 48, .load false 1 (.t 45), none, []⟩, ⟨(some 47), 49, .mv (.t 5), none, []⟩, ⟨(some 48), 50, .iaddr 1 (.t 46) (.t 47), none, []⟩, ⟨(some 49), 51, .load false 1 (.t 48), none, []⟩, ⟨(some 50), 52, .len false (.t 49), none, []⟩, ⟨(some 51), 53, .mv (.c (.i .i64 0)), none, []⟩])
  (.block 2 (.loop (.seq (.ops [⟨(some 52), 54, .bin .lss (.t 51) (.t 50), none, []⟩])
  (.seq (.cond (.t 52)
  .skip
  (.exit 2))
  (.seq (.block 3 (.seq (.ops [⟨(some 53), 55, .iaddr 4 (.t 49) (.t 51), none, []⟩, ⟨(some 54), 56, .load true 4 (.t 53), none, []⟩, ⟨(some 8), 10, .box 4 (.c (.ag [(.i .i64 0), (.i .i64 0), (.f 0), (.f 0)])), none, []⟩, ⟨none, 1010003, .store 4 (.t 8) (.t 54), none, []⟩])
  (.seq (.draw [⟨(some 55), 57, .load true 4 (.t 8), none, []⟩, ⟨(some 56), 58, .mv (.t 0), none, []⟩, ⟨(some 57), 59, .nilck (.t 56), none, []⟩, ⟨(some 58), 60, .faddr 0 1 (.t 57), none, []⟩, ⟨(some 59), 61, .load false 1 (.t 58), none, []⟩, ⟨(some 60), 62, .mv (.t 6), none, []⟩, ⟨(some 61), 63, .iaddr 2 (.t 59) (.t 60), none, []⟩, ⟨(some 62), 64, .faddr 1 1 (.t 61), none, []⟩, ⟨(some 63), 65, .load false 1 (.t 62), none, []⟩, ⟨(some 64), 66, .call 81 [((.t 55), 0), ((.t 63), 0)], none, []⟩, ⟨(some 65), 67, .un .not (.t 64), none, []⟩])
  (.cond (.t 65)
  (.seq (.ops [⟨(some 4), 6, .mv (.c (.b false)), none, []⟩])
  .ret)
  .skip))))
  (.ops [⟨(some 66), 68, .bin .add (.t 51) (.c (.i .i64 1)), none, []⟩, ⟨(some 51), 53, .mv (.t 66), none, []⟩]))))))))))
  (.ops [⟨(some 67), 69, .bin .add (.t 30) (.c (.i .i64 1)), none, []⟩, ⟨(some 30), 32, .mv (.t 67), none, []⟩])))))))
  (.seq (.ops [⟨(some 4), 6, .mv (.c (.b true)), none, []⟩])
  .ret))))
theorem k79 : compCode Tryz.prog Tryz.f79.ntmps Tryz.f79.body.get! = some c79 := by kernel_rfl
theorem r79 : resTmps Tryz.prog Tryz.f79.results.toList = some [.tmp 4] := by kernel_rfl
def c82 : TCode := (.seq (.ops [⟨(some 1), 3, .box 4 (.t 0), none, []⟩, ⟨(some 2), 4, .mv (.c (.b false)), none, []⟩])
  (.seq (.ops [⟨(some 12), 14, .faddr 0 2 (.t 1), none, []⟩, ⟨(some 13), 15, .load true 2 (.t 12), none, []⟩, ⟨(some 14), 16, .call 117 [((.t 13), 0)], none, []⟩, ⟨(some 11), 13, .mv (.t 14), none, []⟩, ⟨(some 15), 17, .ext 0 (.t 11), none, []⟩, ⟨(some 16), 18, .ext 1 (.t 11), none, []⟩, ⟨(some 3), 5, .mv (.t 15), none, []⟩, ⟨(some 4), 6, .mv (.t 16), none, []⟩])
  (.seq (.ops [⟨(some 17), 19, .faddr 0 2 (.t 1), none, []⟩, ⟨(some 18), 20, .faddr 0 1 (.t 17), none, []⟩, ⟨(some 19), 21, .load false 1 (.t 18), none, []⟩, ⟨(some 20), 22, .len false (.t 19), none, []⟩, ⟨(some 21), 23, .mkslice 1 1 [(.b false)] (.t 20) (.t 20), none, []⟩, ⟨(some 5), 7, .mv (.t 21), none, []⟩])
  (.seq (.ops [⟨(some 6), 8, .mv (.c (.i .i64 0)), none, []⟩])
  (.seq (.seq (.ops [⟨(some 22), 24, .faddr 2 1 (.t 1), none, []⟩, ⟨(some 23), 25, .load false 1 (.t 22), none, []⟩, ⟨(some 24), 26, .len false (.t 23), none, []⟩, ⟨(some 25), 27, .mv (.c (.i .i64 0)), none, []⟩])
  (.block 0 (.loop (.seq (.ops [⟨(some 26), 28, .bin .lss (.t 25) (.t 24), none, []⟩])
  (.seq (.cond (.t 26)
  .skip
  (.exit 0))
  (.seq (.block 1 (.seq (.ops [⟨(some 27), 29, .iaddr 3 (.t 23) (.t 25), none, []⟩, ⟨(some 28), 30, .load true 3 (.t 27), none, []⟩, ⟨(some 8), 10, .box 3 (.c (.ag [(.sl true 1 []), (.sl true 2 []), (.sl true 1 [])])), none, []⟩, ⟨none, 1006003, .store 3 (.t 8) (.t 28), none, []⟩])
  (.seq (.ops [⟨(some 29), 31, .faddr 1 1 (.t 8), none, []⟩, ⟨(some 30), 32, .load false 1 (.t 29), none, []⟩, ⟨(some 31), 33, .len false (.t 30), none, []⟩, ⟨(some 32), 34, .mv (.c (.i .i64 0)), none, []⟩])
  (.block 2 (.loop (.seq (.ops [⟨(some 33), 35, .bin .lss (.t 32) (.t 31), none, []⟩])
  (.seq (.cond (.t 33)
  .skip
  (.exit 2))
  (.seq (.block 3 (.seq (.ops [⟨(some 34), 36, .iaddr 2 (.t 30) (.t 32), none, []⟩, ⟨(some 35), 37, .load true 2 (.t 34), none, []⟩, ⟨(some 10), 12, .box 2 (.c (.ag [(.i .i64 0), (.i .i64 0)])), none, []⟩, ⟨none, 1009003, .store 2 (.t 10) (.t 35), none, []⟩])
  (.seq (.seq (.draw [⟨(some 36), 38, .faddr 0 1 (.t 10), none, []⟩, ⟨(some 37), 39, .load false 1 (.t 36), none, []⟩, ⟨(some 38), 40, .mv (.t 5), none, []⟩, ⟨(some 39), 41, .len false (.t 38), none, []⟩, ⟨(some 40), 42, .bin .sub (.t 39) (.c (.i .i64 1)), none, []⟩, ⟨(some 41), 43, .call 54 [((.t 37), 0), ((.c (.i .i64 0)), 0), ((.t 40), 0)], none, []⟩, ⟨(some 42), 44, .un .not (.t 41), none, []⟩, ⟨(some 43), 45, .mv (.t 42), none, []⟩, ⟨(some 44), 46, .mv (.t 3), (some (43, false)), []⟩, ⟨(some 45), 47, .faddr 0 1 (.t 10), (some (43, false)), []⟩, ⟨(some 46), 48, .load false 1 (.t 45), (some (43, false)), []⟩, ⟨(some 47), 49, .iaddr 1 (.t 44) (.t 46), (some (43, false)), []⟩, ⟨(some 48), 50, .load false 1 (.t 47), (some (43, false)), []⟩, ⟨(some 49), 51, .pick (.t 43) (.c (.b true)) (.t 48), none, []⟩, ⟨(some 50), 52, .mv (.t 49), none, []⟩, ⟨(some 51), 53, .mv (.t 5), (some (50, false)), []⟩, ⟨(some 52), 54, .faddr 0 1 (.t 10), (some (50, false)), []⟩, ⟨(some 53), 55, .load false 1 (.t 52), (some (50, false)), []⟩, ⟨(some 54), 56, .iaddr 1 (.t 51) (.t 53), (some (50, false)), []⟩, ⟨(some 55), 57, .load false 1 (.t 54), (some (50, false)), []⟩, ⟨(some 56), 58, .pick (.t 50) (.c (.b true)) (.t 55), none, []⟩, ⟨(some 57), 59, .mv (.t 56), none, []⟩, ⟨(some 58), 60, .faddr 0 2 (.t 1), (some (57, false)), []⟩, ⟨(some 59), 61, .faddr 0 1 (.t 58), (some (57, false)), []⟩, ⟨(some 60), 62, .load false 1 (.t 59), (some (57, false)), []⟩, ⟨(some 61), 63, .faddr 0 1 (.t 10), (some (57, false)), []⟩, ⟨(some 62), 64, .load false 1 (.t 61), (some (57, false)), []⟩, ⟨(some 63), 65, .iaddr 1 (.t 60) (.t 62), (some (57, false)), []⟩, ⟨(some 64), 66, .load false 1 (.t 63), (some (57, false)), []⟩, ⟨(some 65), 67, .faddr 1 1 (.t 10), (some (57, false)), []⟩, ⟨(some 66), 68, .load false 1 (.t 65), (some (57, false)), []⟩, ⟨(some 67), 69, .bin .neq (.t 64) (.t 66), (some (57, false)), []⟩, ⟨(some 68), 70, .pick (.t 57) (.c (.b true)) (.t 67), none, []⟩])
  (.cond (.t 68)
  (.seq (.ops [⟨(some 2), 4, .mv (.c (.b false)), none, []⟩])
  .ret)
  .skip))
  (.seq (.ops [⟨(some 69), 71, .mv (.t 5), none, []⟩, ⟨(some 70), 72, .faddr 0 1 (.t 10), none, []⟩, ⟨(some 71), 73, .load false 1 (.t 70), none, []⟩, ⟨(some 72), 74, .iaddr 1 (.t 69) (.t 71), none, []⟩, ⟨none, 1012004, .store 1 (.t 72) (.c (.b true)), none, []⟩])
  (.ops [⟨(some 73), 75, .mv (.t 6), none, []⟩, ⟨(some 74), 76, .bin .add (.t 73) (.c (.i .i64 1)), none, []⟩, ⟨(some 6), 8, .mv (.t 74), none, []⟩])))))
  (.ops [⟨(some 75), 77, .bin .add (.t 32) (.c (.i .i64 1)), none, []⟩, ⟨(some 32), 34, .mv (.t 75), none, []⟩])))))))))
  (.ops [⟨(some 76), 78, .bin .add (.t 25) (.c (.i .i64 1)), none, []⟩, ⟨(some 25), 27, .mv (.t 76), none, []⟩])))))))
  (.seq (.ops [⟨(some 77), 79, .mv (.t 6), none, []⟩, ⟨(some 78), 80, .mv (.t 5), none, []⟩, ⟨(some 79), 81, .len false (.t 78), none, []⟩, ⟨(some 80), 82, .faddr 0 2 (.t 1), none, []⟩, ⟨(some 81), 83, .faddr 1 1 (.t 80), none, []⟩, ⟨(some 82), 84, .load false 1 (.t 81), none, []⟩, ⟨(some 83), 85, .len false (.t 82), none, []⟩, ⟨(some 84), 86, .bin .sub (.t 79) (.t 83), none, []⟩, ⟨(some 85), 87, .bin .eql (.t 77) (.t 84), none, []⟩, ⟨(some 2), 4, .mv (.t 85), none, []⟩])
  .ret))))))
theorem k82 : compCode Tryz.prog Tryz.f82.ntmps Tryz.f82.body.get! = some c82 := by kernel_rfl
theorem r82 : resTmps Tryz.prog Tryz.f82.results.toList = some [.tmp 2] := by kernel_rfl
def c48 : TCode := (.seq (.ops [⟨(some 3), 5, .box 3 (.t 0), none, []⟩, ⟨(some 5), 7, .box 4 (.t 2), none, []⟩, ⟨(some 6), 8, .mv (.c (.b false)), none, []⟩])
  (.seq (.draw [⟨(some 7), 9, .mv (.t 1), none, []⟩, ⟨(some 8), 10, .faddr 0 1 (.t 3), none, []⟩, ⟨(some 9), 11, .load false 1 (.t 8), none, []⟩, ⟨(some 10), 12, .len false (.t 9), none, []⟩, ⟨(some 11), 13, .bin .sub (.t 10) (.c (.i .i64 1)), none, []⟩, ⟨(some 12), 14, .call 52 [((.t 7), 0), ((.c (.i .i64 0)), 0), ((.t 11), 0)], none, []⟩, ⟨(some 13), 15, .mv (.t 12), none, []⟩, ⟨(some 14), 16, .load true 4 (.t 5), (some (13, true)), []⟩, ⟨(some 15), 17, .call 61 [((.t 14), 0)], (some (13, true)), []⟩, ⟨(some 16), 18, .pick (.t 13) (.t 15) (.c (.b false)), none, []⟩, ⟨(some 17), 19, .mv (.t 16), none, []⟩, ⟨(some 18), 20, .faddr 0 1 (.t 5), (some (17, true)), []⟩, ⟨(some 19), 21, .load false 1 (.t 18), (some (17, true)), []⟩, ⟨(some 20), 22, .faddr 0 1 (.t 3), (some (17, true)), []⟩, ⟨(some 21), 23, .load false 1 (.t 20), (some (17, true)), []⟩, ⟨(some 22), 24, .mv (.t 1), (some (17, true)), []⟩, ⟨(some 23), 25, .iaddr 2 (.t 21) (.t 22), (some (17, true)), []⟩, ⟨(some 24), 26, .faddr 1 1 (.t 23), (some (17, true)), []⟩, ⟨(some 25), 27, .load false 1 (.t 24), (some (17, true)), []⟩, ⟨(some 26), 28, .bin .eql (.t 19) (.t 25), (some (17, true)), []⟩, ⟨(some 27), 29, .pick (.t 17) (.t 26) (.c (.b false)), none, []⟩, ⟨(some 6), 8, .mv (.t 27), none, []⟩])
  .ret))
theorem k48 : compCode Tryz.prog Tryz.f48.ntmps Tryz.f48.body.get! = some c48 := by kernel_rfl
theorem r48 : resTmps Tryz.prog Tryz.f48.results.toList = some [.tmp 6] := by kernel_rfl
def c63 : TCode := (.seq (.ops [⟨(some 2), 4, .box 3 (.t 0), none, []⟩, ⟨(some 3), 5, .box 3 (.t 1), none, []⟩, ⟨(some 4), 6, .mv (.c (.b false)), none, []⟩])
  (.seq (.seq (.ops [⟨(some 7), 9, .faddr 0 1 (.t 3), none, []⟩, ⟨(some 8), 10, .load false 1 (.t 7), none, []⟩, ⟨(some 9), 11, .len false (.t 8), none, []⟩, ⟨(some 10), 12, .bin .gtr (.t 9) (.c (.i .i64 12)), none, []⟩, ⟨(some 11), 13, .mv (.t 10), none, []⟩, ⟨(some 12), 14, .faddr 0 1 (.t 3), (some (11, false)), []⟩, ⟨(some 13), 15, .load false 1 (.t 12), (some (11, false)), []⟩, ⟨(some 14), 16, .faddr 0 1 (.t 2), (some (11, false)), []⟩, ⟨(some 15), 17, .load false 1 (.t 14), (some (11, false)), []⟩, ⟨(some 16), 18, .len false (.t 15), (some (11, false)), []⟩, ⟨(some 17), 19, .call 110 [((.t 13), 0), ((.t 16), 0)], (some (11, false)), []⟩, ⟨(some 18), 20, .un .not (.t 17), (some (11, false)), []⟩, ⟨(some 19), 21, .pick (.t 11) (.c (.b true)) (.t 18), none, []⟩, ⟨(some 20), 22, .mv (.t 19), none, []⟩, ⟨(some 21), 23, .faddr 2 1 (.t 3), (some (20, false)), []⟩, ⟨(some 22), 24, .load false 1 (.t 21), (some (20, false)), []⟩, ⟨(some 23), 25, .len false (.t 22), (some (20, false)), []⟩, ⟨(some 24), 26, .faddr 0 1 (.t 3), (some (20, false)), []⟩, ⟨(some 25), 27, .load false 1 (.t 24), (some (20, false)), []⟩, ⟨(some 26), 28, .len false (.t 25), (some (20, false)), []⟩, ⟨(some 27), 29, .bin .neq (.t 23) (.t 26), (some (20, false)), []⟩, ⟨(some 28), 30, .pick (.t 20) (.c (.b true)) (.t 27), none, []⟩, ⟨(some 29), 31, .mv (.t 28), none, []⟩, ⟨(some 30), 32, .faddr 1 1 (.t 3), (some (29, false)), []⟩, ⟨(some 31), 33, .load false 1 (.t 30), (some (29, false)), []⟩, ⟨(some 32), 34, .len false (.t 31), (some (29, false)), []⟩, ⟨(some 33), 35, .bin .gtr (.t 32) (.c (.i .i64 2000)), (some (29, false)), []⟩, ⟨(some 34), 36, .pick (.t 29) (.c (.b true)) (.t 33), none, []⟩])
  (.cond (.t 34)
  (.seq (.ops [⟨(some 4), 6, .mv (.c (.b false)), none, []⟩])
  .ret)
  .skip))
  (.seq (.seq (.ops [⟨(some 5), 7, .mv (.c (.i .i64 0)), none, []⟩])
  (.block 0 (.loop (.seq (.seq (.ops [⟨(some 35), 37, .mv (.t 5), none, []⟩, ⟨(some 36), 38, .faddr 2 1 (.t 3), none, []⟩, ⟨(some 37), 39, .load false 1 (.t 36), none, []⟩, ⟨(some 38), 40, .len false (.t 37), none, []⟩, ⟨(some 39), 41, .bin .lss (.t 35) (.t 38), none, []⟩])
  (.cond (.t 39)
  .skip
  (.exit 0)))
  (.seq (.block 1 (.seq (.seq (.draw [⟨(some 42), 44, .faddr 2 1 (.t 3), none, []⟩, ⟨(some 43), 45, .load false 1 (.t 42), none, []⟩, ⟨(some 44), 46, .mv (.t 5), none, []⟩, ⟨(some 45), 47, .iaddr 1 (.t 43) (.t 44), none, []⟩, ⟨(some 46), 48, .load false 1 (.t 45), none, []⟩, ⟨(some 47), 49, .len false (.t 46), none, []⟩, ⟨(some 48), 50, .faddr 1 1 (.t 3), none, []⟩, ⟨(some 49), 51, .load false 1 (.t 48), none, []⟩, ⟨(some 50), 52, .len false (.t 49), none, []⟩, ⟨(some 51), 53, .bin .neq (.t 47) (.t 50), none, []⟩])
  (.cond (.t 51)
  (.seq (.ops [⟨(some 4), 6, .mv (.c (.b false)), none, []⟩])
  .ret)
  .skip))
  (.seq (.ops [⟨(some 6), 8, .mv (.c (.i .i64 0)), none, []⟩])
  (.block 2 (.loop (.seq (.seq (.ops [⟨(some 52), 54, .mv (.t 6), none, []⟩, ⟨(some 53), 55, .faddr 1 1 (.t 3), none, []⟩, ⟨(some 54), 56, .load false 1 (.t 53), none, []⟩, ⟨(some 55), 57, .len false (.t 54), none, []⟩, ⟨(some 56), 58, .bin .lss (.t 52) (.t 55), none, []⟩])
  (.cond (.t 56)
  .skip
  (.exit 2)))
  (.seq (.block 3 (.seq (.draw [⟨(some 59), 61, .load true 3 (.t 2), none, []⟩, ⟨(some 60), 62, .faddr 0 1 (.t 3), none, []⟩, ⟨(some 61), 63, .load false 1 (.t 60), none, []⟩, ⟨(some 62), 64, .mv (.t 5), none, []⟩, ⟨(some 63), 65, .iaddr 1 (.t 61) (.t 62), none, []⟩, ⟨(some 64), 66, .load false 1 (.t 63), none, []⟩, ⟨(some 65), 67, .faddr 2 1 (.t 3), none, []⟩, ⟨(some 66), 68, .load false 1 (.t 65), none, []⟩, ⟨(some 67), 69, .mv (.t 5), none, []⟩, ⟨(some 68), 70, .iaddr 1 (.t 66) (.t 67), none, []⟩, ⟨(some 69), 71, .load false 1 (.t 68), none, []⟩, ⟨(some 70), 72, .mv (.t 6), none, []⟩, ⟨(some 71), 73, .iaddr 4 (.t 69) (.t 70), none, []⟩, ⟨(some 72), 74, .load true 4 (.t 71), none, []⟩, ⟨(some 73), 75, .call 48 [((.t 59), 0), ((.t 64), 0), ((.t 72), 0)], none, []⟩, ⟨(some 74), 76, .un .not (.t 73), none, []⟩])
  (.cond (.t 74)
  (.seq (.ops [⟨(some 4), 6, .mv (.c (.b false)), none, []⟩])
  .ret)
  .skip)))
  (.ops [⟨(some 57), 59, .mv (.t 6), none, []⟩, ⟨(some 58), 60, .bin .add (.t 57) (.c (.i .i64 1)), none, []⟩, ⟨(some 6), 8, .mv (.t 58), none, []⟩]))))))))
  (.ops [⟨(some 40), 42, .mv (.t 5), none, []⟩, ⟨(some 41), 43, .bin .add (.t 40) (.c (.i .i64 1)), none, []⟩, ⟨(some 5), 7, .mv (.t 41), none, []⟩]))))))
  (.seq (.ops [⟨(some 4), 6, .mv (.c (.b true)), none, []⟩])
  .ret))))
theorem k63 : compCode Tryz.prog Tryz.f63.ntmps Tryz.f63.body.get! = some c63 := by kernel_rfl
theorem r63 : resTmps Tryz.prog Tryz.f63.results.toList = some [.tmp 4] := by kernel_rfl
abbrev DeclsP := List (ByteArray × Int)
def flatR (ts : List TableP) : List (Int × Int) := ts.flatMap (·.2.1)
theorem flatR_snoc {ts : List TableP} {j : Nat} {t : TableP} (ht : ts[j]? = some t) : flatR (ts.take (j + 1)) = flatR (ts.take j) ++ t.2.1 := by
  unfold flatR; rw [take_snoc ht]; simp
theorem flatR_nil : flatR [] = [] := rfl
theorem flatR_pre {ts : List TableP} {j : Nat} {t : TableP} (ht : ts[j]? = some t) (k : Nat) : ∃ rest, flatR ts = (flatR (ts.take j) ++ t.2.1.take k) ++ rest := by
  refine ⟨t.2.1.drop k ++ flatR (ts.drop (j + 1)), ?_⟩
  have h1 : flatR ts = flatR (ts.take (j + 1)) ++ flatR (ts.drop (j + 1)) := by
    unfold flatR; rw [← List.flatMap_append, List.take_append_drop]
  rw [h1, flatR_snoc ht]
  conv => lhs; rw [← List.take_append_drop k t.2.1]
  simp only [List.append_assoc]
def atsR (a : List (Int × Int)) : List Int := a.map (·.1)
theorem atsR_nil : atsR [] = [] := rfl
theorem atsR_snoc (a : List (Int × Int)) (e : Int × Int) : atsR (a ++ [e]) = atsR a ++ [e.1] := by simp [atsR]
def rowsG (g f : List Int) (rs : List (Int × Int)) : Prop := (∀ e ∈ rs, liveP g f e.1 e.2) ∧ (atsR rs).Nodup
def rowsP (g f : List Int) (rs : List (Int × Int)) : Prop := rowsG g f rs ∧ (rs.length : Int) = g.length - f.length
noncomputable instance (g f : List Int) (rs : List (Int × Int)) : Decidable (rowsP g f rs) := Classical.propDecidable _
theorem rowsG_nil (g f : List Int) : rowsG g f [] := ⟨by simp, by simp [atsR]⟩
theorem rowsG_pre {g f : List Int} {a b : List (Int × Int)} (h : rowsG g f (a ++ b)) : rowsG g f a :=
  ⟨fun e he => h.1 e (by simp [he]), by have := h.2; unfold atsR at this ⊢; rw [List.map_append] at this; exact (List.nodup_append.1 this).1⟩
theorem rowsG_snoc {g f : List Int} {a : List (Int × Int)} {e : Int × Int} : rowsG g f (a ++ [e]) ↔ rowsG g f a ∧ liveP g f e.1 e.2 ∧ e.1 ∉ atsR a := by
  constructor
  · intro h
    refine ⟨rowsG_pre h, h.1 e (by simp), fun hm => ?_⟩
    have := h.2
    rw [atsR_snoc] at this
    exact (List.nodup_append.1 this).2.2 _ hm _ (by simp) rfl
  · rintro ⟨h1, h2, h3⟩
    refine ⟨fun x hx => ?_, ?_⟩
    · rcases List.mem_append.1 hx with hx | hx
      · exact h1.1 x hx
      · rw [List.mem_singleton.1 hx]; exact h2
    · rw [atsR_snoc]
      refine List.nodup_append.2 ⟨h1.2, by simp, fun x hx y hy => ?_⟩
      simp at hy; subst hy; rintro rfl; exact h3 hx
theorem rowsG_len {g f : List Int} {a : List (Int × Int)} (h : rowsG g f a) : a.length ≤ g.length := by
  have := len_le_of_nodup g.length (atsR a) (fun x hx => by
    obtain ⟨e, he, rfl⟩ := List.mem_map.1 hx
    have := (h.1 e he).1; omega) h.2
  simpa [atsR] using this
set_option maxHeartbeats 1000000 in
set_option maxRecDepth 100000 in
theorem w82 (w : WorldP) (h : okW w) (hE : freeOk w.1.length w.2.1) : Contract Tryz.prog false 82 [.ro] [worldR w.1 w.2.1 w.2.2.1 w.2.2.2] [.b (decide (rowsP w.1 w.2.1 (flatR w.2.2.1)))] [] := by
  refine mk_contract [] Tryz.func82 (c := Tryz.f82.body.get!) (by kernel_rfl) k82 r82 (of_decide_eq_true rfl) fun _ => ?_
  obtain ⟨h1, h2, ⟨h3, h4⟩, h5⟩ := h
  obtain ⟨g, f, ts, rs⟩ := w
  simp only at h1 h2 h3 h4 h5 hE ⊢
  have hfl : f.length ≤ g.length := len_le_of_nodup _ _ hE.1 hE.2
  unfold c82; simp
  have hF := w117 g f (by omega) (by omega)
  rw [if_pos hE, decide_eq_true hE] at hF
  refine callW_ms [.ro] ?_
  simp
  refine callX_of hF (by simp [entsR]) ?_
  simp
  refine ⟨by omega, ?_⟩
  refine twp_for ts.length (fun j s => s.t 1 = .pt [(3, 0)] 0 0 ∧ s.t 3 = .rf [(16, 0)] 0 g.length ∧ s.t 5 = .rf [(23, 0)] 0 g.length ∧ s.t 6 = .i .i64 (flatR (ts.take j)).length ∧ s.t 23 = .sl false 3 (ts.map tbT) ∧ s.t 24 = .i .i64 ts.length ∧ s.t 25 = .i .i64 j ∧ rowsG g f (flatR (ts.take j)) ∧ s.H = lk [(1, []), (3, [.po true [.sl false 1 (g.map iT), .sl false 1 (f.map iT), .sl false 3 (ts.map tbT), .sl false 4 (rs.map vT)]]), (16, [.sl true 1 ((freeL g.length f).map bT), .b true]), (23, [.sl true 1 ((freeL g.length (atsR (flatR (ts.take j)))).map bT)])]) [10, 12] (by simp) ?_ ?_
  · simp [flatR_nil, atsR_nil, rowsG_nil]
  · rintro j s hj ⟨q1, q3, q5, q6, q23, q24, q25, hG, qH⟩
    rw [nf_of qH]
    simp [q1, q3, q5, q6, q23, q24, q25]
    refine ⟨fun hlt => ?_, fun hge => ?_⟩
    · have hw : IntKind.i64.wrap (j + 1) = j + 1 := wrap_id (by omega) (by omega)
      obtain ⟨t, ht⟩ := get_some hlt
      simp [ht, q1, q3, q5, q6, q23, q24, q25]
      have hsn := flatR_snoc ht
      obtain ⟨A, hA⟩ : ∃ A, A = flatR (ts.take j) := ⟨_, rfl⟩
      rw [← hA] at hsn
      have hpre : ∀ k, ∃ rest, flatR ts = (A ++ t.2.1.take k) ++ rest := fun k => by rw [hA]; exact flatR_pre ht k
      have htl : t.2.1.length ≤ 2^36 := (h4 t (List.mem_of_getElem? ht)).2.1
      have wg : IntKind.i64.wrap ((g.length : Int) - 1) = g.length - 1 := wrap_id (by omega) (by omega)
      have hno : ∀ k e, t.2.1[k]? = some e → ¬ rowsG g f ((A ++ t.2.1.take k) ++ [e]) → ¬ rowsP g f (flatR ts) := fun k e he h1 h2 => by
        obtain ⟨rest, hr⟩ := hpre (k + 1)
        rw [take_snoc he, ← List.append_assoc] at hr
        rw [hr] at h2
        exact h1 (rowsG_pre h2.1)
      refine twp_for t.2.1.length (fun i s2 => s2.t 1 = .pt [(3, 0)] 0 0 ∧ s2.t 3 = .rf [(16, 0)] 0 g.length ∧ s2.t 5 = .rf [(23, 0)] 0 g.length ∧ s2.t 6 = .i .i64 (A ++ t.2.1.take i).length ∧ s2.t 23 = .sl false 3 (ts.map tbT) ∧ s2.t 24 = .i .i64 ts.length ∧ s2.t 25 = .i .i64 j ∧ s2.t 30 = .sl false 2 (t.2.1.map eT) ∧ s2.t 31 = .i .i64 t.2.1.length ∧ s2.t 32 = .i .i64 i ∧ rowsG g f (A ++ t.2.1.take i) ∧ s2.H = lk [(1, []), (3, [.po true [.sl false 1 (g.map iT), .sl false 1 (f.map iT), .sl false 3 (ts.map tbT), .sl false 4 (rs.map vT)]]), (16, [.sl true 1 ((freeL g.length f).map bT), .b true]), (23, [.sl true 1 ((freeL g.length (atsR (A ++ t.2.1.take i))).map bT)]), (10, [.po true [.sl false 1 (t.1.map iT), .sl false 2 (t.2.1.map eT), .sl false 1 (t.2.2.map cvT)]])]) [12] (by simp) ?_ ?_
      · rw [← hA] at hG
        simp [q1, q3, q5, q6, q23, q24, q25, ← hA, hG]
      · rintro i s2 hi ⟨p1, p3, p5, p6, p23, p24, p25, p30, p31, p32, hG2, pH⟩
        obtain ⟨B, hB⟩ : ∃ B, B = A ++ t.2.1.take i := ⟨_, rfl⟩
        have hlen := rowsG_len hG2
        rw [← hB] at hG2 hlen p6 pH
        rw [nf_of pH]
        simp [p1, p3, p5, p6, p23, p24, p25, p30, p31, p32]
        refine ⟨fun hlt2 => ?_, fun hge2 => ?_⟩
        · have hwi : IntKind.i64.wrap (i + 1) = i + 1 := wrap_id (by omega) (by omega)
          obtain ⟨e, he⟩ := get_some hlt2
          have hsn2 := take_snoc he
          have hno2 := hno i e he
          rw [← hB] at hno2
          rw [rowsG_snoc] at hno2
          have hBs : A ++ t.2.1.take (i + 1) = B ++ [e] := by rw [hsn2, hB, List.append_assoc]
          have wB : IntKind.i64.wrap ((B.length : Int) + 1) = B.length + 1 := wrap_id (by omega) (by omega)
          simp [he, p1, p3, p5, p6, p23, p24, p25, p30, p31, p32, wg]
          by_cases hr : 0 ≤ e.1 ∧ e.1 ≤ (g.length : Int) - 1
          rotate_left
          · refine callW_ms [.ro, .ro, .ro] ?_
            simp
            refine callX_of ((w54 _ _ _).f hr) (by simp) ?_
            simp [p1, p3, p5, p6, p23, p24, p25, p30, p31, p32]
            exact hno2 fun h => hr h.2.1.1
          have hgf := freeL_get (n := g.length) (f := f) (x := e.1) hr.1 (by omega)
          have hgB := freeL_get (n := g.length) (f := atsR B) (x := e.1) hr.1 (by omega)
          obtain ⟨y, hy⟩ : ∃ y, g[e.1.toNat]? = some y := get_some (by omega)
          have hr0 := hr.1
          by_cases hf : e.1 ∈ f
          · refine callW_ms [.ro, .ro, .ro] ?_
            simp
            refine callX_of ((w54 _ _ _).t hr) (by simp) ?_
            simp [hgf, hf, hr0, p1, p3, p5, p6, p23, p24, p25, p30, p31, p32]
            exact ⟨by omega, hno2 fun h => h.2.1.2.2 hf⟩
          by_cases hb : e.1 ∈ atsR B
          · refine callW_ms [.ro, .ro, .ro] ?_
            simp
            refine callX_of ((w54 _ _ _).t hr) (by simp) ?_
            simp [hgf, hf, hgB, hb, hr0, p1, p3, p5, p6, p23, p24, p25, p30, p31, p32]
            exact ⟨by omega, hno2 fun h => h.2.2 hb⟩
          have hset : (List.map bT (freeL g.length (atsR B))).set e.1.toNat [.b true] = List.map bT (freeL g.length (atsR (B ++ [e]))) := by
            rw [atsR_snoc, ← freeL_set hr.1 (by omega)]; simp
          refine callW_ms [.ro, .ro, .ro] ?_
          simp
          refine callX_of ((w54 _ _ _).t hr) (by simp) ?_
          simp [hgf, hf, hgB, hb, hy, hr0, hset, wB, hwi, hBs, p1, p3, p5, p6, p23, p24, p25, p30, p31, p32]
          have hBl : B.length = A.length + i := by rw [hB]; simp; omega
          refine ⟨by omega, fun hyv => ⟨by omega, hlt2, by omega, rowsG_snoc.2 ⟨hG2, ⟨hr, by rw [hy, hyv], hf⟩, hb⟩⟩, fun hyv => hno2 fun h => hyv ?_⟩
          have := h.2.1.2.1
          rw [hy] at this
          exact Option.some.inj this
        · obtain rfl : i = t.2.1.length := by omega
          rw [List.take_of_length_le (Nat.le_refl _)] at hB
          rw [hsn, ← hB]
          exact ⟨hlt, rfl, hw, hG2, rfl⟩
    · obtain rfl : j = ts.length := by omega
      rw [wrap_id (by omega) (by omega)]
      rw [List.take_of_length_le (Nat.le_refl _)] at hG ⊢
      exact ⟨fun h => ⟨hG, h⟩, fun h => h.2⟩
end Go.Proofs.YtehmdblkkpdmoaaGreatT


namespace Go.Proofs.YtehmdblkkpdmoaaGreatT
set_option linter.unusedVariables false
set_option linter.unusedSimpArgs false
open Go
def fitP (c : DeclsP) (k : Int) (v : ValP) : Prop := (0 ≤ k ∧ k ≤ (c.length : Int) - 1) ∧ ValOkP v ∧ (c[k.toNat]?).map (·.2) = some v.1
noncomputable instance (c : DeclsP) (k : Int) (v : ValP) : Decidable (fitP c k v) := Classical.propDecidable _
theorem fitP_of {c : DeclsP} {k : Int} {v : ValP} {d : ByteArray × Int} (h : 0 ≤ k ∧ k ≤ (c.length : Int) - 1) (hd : c[k.toNat]? = some d) : fitP c k v ↔ ofK d.2 v := by
  unfold fitP ofK
  rw [hd]
  simp only [Option.map_some, Option.some.injEq]
  exact ⟨fun h2 => ⟨h2.2.2.symm, h2.2.1⟩, fun h2 => ⟨h, h2.2, h2.1.symm⟩⟩
theorem w48 (c r e : DeclsP) (k : Int) (v : ValP) (hv : valOkF v) (hc : c.length ≤ 2^40) : Contract Tryz.prog false 48 [.ro, .ro, .ro] [regR c r e, .i .i64 k, valV v] [.b (decide (fitP c k v))] [] := by
  refine mk_contract [] Tryz.func48 (c := Tryz.f48.body.get!) (by kernel_rfl) k48 r48 (of_decide_eq_true rfl) fun _ => ?_
  have hw : IntKind.i64.wrap ((c.length : Int) - 1) = c.length - 1 := wrap_id (by omega) (by omega)
  unfold c48; unfold regR valV; simp [hw]
  by_cases h1 : 0 ≤ k ∧ k ≤ (c.length : Int) - 1
  · obtain ⟨d, hd⟩ : ∃ d, c[k.toNat]? = some d := get_some (by omega)
    refine callW_ms [.ro, .ro, .ro] ?_
    simp
    refine callX_of ((w52 _ _ _).t h1) (by simp) ?_
    simp
    by_cases h2 : ValOkP v
    · refine callW_ms [.ro] ?_
      simp [valV]
      refine callX_of ((w61 v hv).t h2) (by simp) ?_
      simp [hd, h1.1]
      simp [fitP, h1, h2, hd]
      exact ⟨fun h => h.symm, fun h => h.symm⟩
    · refine callW_ms [.ro] ?_
      simp [valV]
      refine callX_of ((w61 v hv).f h2) (by simp) ?_
      simp
      simp [fitP, h2]
  · refine callW_ms [.ro, .ro, .ro] ?_
    simp
    refine callX_of ((w52 _ _ _).f h1) (by simp) ?_
    simp
    have : ¬ fitP c k v := fun h => h1 h.1
    simp [this]
def kindsUp (k : Int) (l : List ValP) : Prop := ∀ v ∈ l, ofK k v
theorem kindsUp_nil (k : Int) : kindsUp k [] := fun _ h => by cases h
theorem kindsUp_snoc {k : Int} {l : List ValP} {v : ValP} (h : kindsUp k l) (hv : ofK k v) : kindsUp k (l ++ [v]) := fun x hx => by
  rcases List.mem_append.1 hx with hx | hx
  · exact h x hx
  · rw [List.mem_singleton.1 hx]; exact hv
def colG (c : DeclsP) (t : TableP) (i : Nat) : Prop := ∀ x vs, t.1[i]? = some x → t.2.2[i]? = some vs → vs.length = t.2.1.length ∧ ∀ v ∈ vs, fitP c x v
def tabP (c : DeclsP) (t : TableP) : Prop := colsP t.1 c.length ∧ t.2.2.length = t.1.length ∧ ∀ i, colG c t i
noncomputable instance (c : DeclsP) (t : TableP) : Decidable (tabP c t) := Classical.propDecidable _
def colsUp (c : DeclsP) (t : TableP) (j : Nat) : Prop := ∀ i, i < j → colG c t i
theorem colsUp_zero (c : DeclsP) (t : TableP) : colsUp c t 0 := fun i h => by omega
theorem colsUp_succ {c : DeclsP} {t : TableP} {j : Nat} : colsUp c t (j + 1) ↔ colsUp c t j ∧ colG c t j := by
  constructor
  · intro h; exact ⟨fun i hi => h i (by omega), h j (by omega)⟩
  · rintro ⟨h1, h2⟩ i hi
    by_cases hij : i = j
    · rw [hij]; exact h2
    · exact h1 i (by omega)
theorem colsUp_all {c : DeclsP} {t : TableP} (h : colsUp c t t.1.length) : ∀ i, colG c t i := fun i x vs hx => h i (List.getElem?_eq_some_iff.1 hx).1 x vs hx
set_option maxRecDepth 100000 in
theorem w79 (c r e : DeclsP) (t : TableP) (h : okT t) (hc : c.length ≤ 2^40) : Contract Tryz.prog false 79 [.ro, .ro] [.po false [.sl false 2 (c.map dT), .sl false 2 (r.map dT), .sl false 2 (e.map dT)], tableR t] [.b (decide (tabP c t))] [] := by
  refine mk_contract [] Tryz.func79 (c := Tryz.f79.body.get!) (by kernel_rfl) k79 r79 (of_decide_eq_true rfl) fun _ => ?_
  obtain ⟨h1, h2, h3, h4⟩ := h
  unfold c79; simp
  by_cases hcol : colsP t.1 c.length
  rotate_left
  · refine callW_ms [.ro, .ro] ?_
    simp
    refine callX_of ((w118 t.1 c.length (by omega) hc).f hcol) (by simp) ?_
    simp
    simp [tabP, hcol]
  refine callW_ms [.ro, .ro] ?_
  simp
  refine callX_of ((w118 t.1 c.length (by omega) hc).t hcol) (by simp) ?_
  simp
  refine ⟨fun hl => ?_, fun hl => ?_⟩
  rotate_left
  · have hl2 : ¬ t.2.2.length = t.1.length := fun h => hl (by rw [h])
    exact fun h => hl2 h.2.1
  have hl2 : t.2.2.length = t.1.length := by omega
  refine twp_for t.1.length (fun j s => s.t 0 = .po false [.sl false 2 (c.map dT), .sl false 2 (r.map dT), .sl false 2 (e.map dT)] ∧ s.t 3 = .pt [(5, 0)] 0 0 ∧ s.t 28 = .sl false 1 (t.1.map iT) ∧ s.t 29 = .i .i64 t.1.length ∧ s.t 30 = .i .i64 j ∧ colsUp c t j ∧ s.H = lk [(1, []), (5, [.po true (tbT t)])]) [] (by simp) ?_ ?_
  · simp [colsUp_zero]
  · rintro j s hj ⟨q0, q3, q28, q29, q30, hU, qH⟩
    rw [nf_of qH]
    simp [q0, q3, q28, q29, q30]
    refine ⟨fun hlt => ?_, fun hge => ?_⟩
    · have hw : IntKind.i64.wrap (j + 1) = j + 1 := wrap_id (by omega) (by omega)
      obtain ⟨x, hx⟩ := get_some hlt
      obtain ⟨vs, hvs⟩ := get_some (show j < t.2.2.length by omega)
      have hxr := hcol.1 x (List.mem_of_getElem? hx)
      have hx0 := hxr.1
      obtain ⟨d, hd⟩ : ∃ d, c[x.toNat]? = some d := get_some (by omega)
      have hvl := h4 vs (List.mem_of_getElem? hvs)
      have hcg : colG c t j ↔ vs.length = t.2.1.length ∧ ∀ v ∈ vs, ofK d.2 v := by
        constructor
        · intro h
          obtain ⟨g1, g2⟩ := h x vs hx hvs
          exact ⟨g1, fun v hv => (fitP_of hxr hd).1 (g2 v hv)⟩
        · rintro ⟨g1, g2⟩ x' vs' hx' hvs'
          rw [hx] at hx'; rw [hvs] at hvs'; cases hx'; cases hvs'
          exact ⟨g1, fun v hv => (fitP_of hxr hd).2 (g2 v hv)⟩
      have hno : ¬ colG c t j → ¬ tabP c t := fun h h2 => h (h2.2.2 j)
      simp [hx, hvs, q0, q3, q28, q29, q30]
      refine ⟨fun hvr => ?_, fun hvr => hno fun h => hvr (by rw [(hcg.1 h).1])⟩
      have hvr2 : vs.length = t.2.1.length := by omega
      refine twp_for vs.length (fun i s2 => s2.t 0 = .po false [.sl false 2 (c.map dT), .sl false 2 (r.map dT), .sl false 2 (e.map dT)] ∧ s2.t 3 = .pt [(5, 0)] 0 0 ∧ s2.t 6 = .i .i64 x ∧ s2.t 28 = .sl false 1 (t.1.map iT) ∧ s2.t 29 = .i .i64 t.1.length ∧ s2.t 30 = .i .i64 j ∧ s2.t 49 = .sl false 4 (vs.map vT) ∧ s2.t 50 = .i .i64 vs.length ∧ s2.t 51 = .i .i64 i ∧ kindsUp d.2 (vs.take i) ∧ s2.H = lk [(1, []), (5, [.po true (tbT t)])]) [10] (by simp) ?_ ?_
      · simp [q0, q3, q28, q29, q30, hvr, kindsUp_nil]
      · rintro i s2 hi ⟨p0, p3, p6, p28, p29, p30, p49, p50, p51, hV, pH⟩
        rw [nf_of pH]
        simp [p0, p3, p6, p28, p29, p30, p49, p50, p51]
        refine ⟨fun hlt2 => ?_, fun hge2 => ?_⟩
        · have hwi : IntKind.i64.wrap (i + 1) = i + 1 := wrap_id (by omega) (by omega)
          obtain ⟨v, hv⟩ := get_some hlt2
          have hsn := take_snoc hv
          simp [hv, hd, hx0, p0, p3, p6, p28, p29, p30, p49, p50, p51]
          by_cases hk : ofK d.2 v
          · refine callW_ms [.ro, .ro] ?_
            simp [valV]
            refine callX_of ((w81 v d.2).t hk) (by simp) ?_
            simp [hwi, hvr, p0, p3, p6, p28, p29, p30, p49, p50, p51]
            rw [hsn]
            exact ⟨by omega, kindsUp_snoc hV hk⟩
          · refine callW_ms [.ro, .ro] ?_
            simp [valV]
            refine callX_of ((w81 v d.2).f hk) (by simp) ?_
            simp [hwi, p0, p3, p6, p28, p29, p30, p49, p50, p51]
            exact hno fun h => hk ((hcg.1 h).2 v (List.mem_of_getElem? hv))
        · obtain rfl : i = vs.length := by omega
          rw [List.take_of_length_le (Nat.le_refl _)] at hV
          exact ⟨hlt, hw, colsUp_succ.2 ⟨hU, hcg.2 ⟨hvr2, hV⟩⟩⟩
    · obtain rfl : j = t.1.length := by omega
      exact ⟨hcol, hl2, colsUp_all hU⟩
def stabP (c : DeclsP) (t : TableP) : Prop := (t.1.length ≤ 12 ∧ t.2.1.length ≤ 2000) ∧ tabP c t
noncomputable instance (c : DeclsP) (t : TableP) : Decidable (stabP c t) := Classical.propDecidable _
set_option maxRecDepth 100000 in
theorem w63 (c r e : DeclsP) (t : TableP) (h : okT t) (hc : c.length ≤ 2^40) (hf : ∀ vs ∈ t.2.2, valsF vs) : Contract Tryz.prog false 63 [.ro, .ro] [regR c r e, tableR t] [.b (decide (stabP c t))] [] := by
  refine mk_contract [] Tryz.func63 (c := Tryz.f63.body.get!) (by kernel_rfl) k63 r63 (of_decide_eq_true rfl) fun _ => ?_
  obtain ⟨h1, h2, h3, h4⟩ := h
  unfold c63; unfold regR; simp
  cases hb1 : decide ((12 : Int) < (t.1.length : Int))
  rotate_left
  · have : (12 : Int) < t.1.length := of_decide_eq_true hb1
    have hno : ¬ stabP c t := fun h => by have := h.1.1; omega
    simp [hb1, hno]
  have hl1 : t.1.length ≤ 12 := by have := of_decide_eq_false hb1; omega
  simp [hb1]
  by_cases hcol : colsP t.1 c.length
  rotate_left
  · refine callW_ms [.ro, .ro] ?_
    simp
    refine callX_of ((w110 t.1 c.length (by omega) hc).f hcol) (by simp) ?_
    simp
    exact fun h => hcol h.2.1
  refine callW_ms [.ro, .ro] ?_
  simp
  refine callX_of ((w110 t.1 c.length (by omega) hc).t hcol) (by simp) ?_
  simp
  by_cases hl2 : t.2.2.length = t.1.length
  rotate_left
  · have hl3 : ¬ ((t.2.2.length : Int) = t.1.length) := by omega
    have hno : ¬ stabP c t := fun h => hl2 h.2.2.1
    simp [hl3, hno]
  simp [hl2]
  refine ⟨fun hl4 => fun h => by have := h.1.2; omega, fun hl4 => ?_⟩
  have hno : ∀ i, ¬ colG c t i → ¬ stabP c t := fun i h h2 => h (h2.2.2.2 i)
  refine twp_for t.1.length (fun j s => s.t 2 = .pt [(4, 0)] 0 0 ∧ s.t 3 = .pt [(5, 0)] 0 0 ∧ s.t 5 = .i .i64 j ∧ colsUp c t j ∧ s.H = lk [(1, []), (4, [.po true [.sl false 2 (c.map dT), .sl false 2 (r.map dT), .sl false 2 (e.map dT)]]), (5, [.po true (tbT t)])]) [] (by simp) ?_ ?_
  · simp [colsUp_zero]
  · rintro j s hj ⟨q2, q3, q5, hU, qH⟩
    rw [nf_of qH]
    simp [q2, q3, q5, hl2]
    refine ⟨fun hlt => ?_, fun hge => ?_⟩
    · have hw : IntKind.i64.wrap (j + 1) = j + 1 := wrap_id (by omega) (by omega)
      obtain ⟨x, hx⟩ := get_some hlt
      obtain ⟨vs, hvs⟩ := get_some (show j < t.2.2.length by omega)
      have hxr := hcol.1 x (List.mem_of_getElem? hx)
      have hx0 := hxr.1
      obtain ⟨d, hd⟩ : ∃ d, c[x.toNat]? = some d := get_some (by omega)
      have hvl := h4 vs (List.mem_of_getElem? hvs)
      have hvf := hf vs (List.mem_of_getElem? hvs)
      have hcg : colG c t j ↔ vs.length = t.2.1.length ∧ ∀ v ∈ vs, ofK d.2 v := by
        constructor
        · intro h
          obtain ⟨g1, g2⟩ := h x vs hx hvs
          exact ⟨g1, fun v hv => (fitP_of hxr hd).1 (g2 v hv)⟩
        · rintro ⟨g1, g2⟩ x' vs' hx' hvs'
          rw [hx] at hx'; rw [hvs] at hvs'; cases hx'; cases hvs'
          exact ⟨g1, fun v hv => (fitP_of hxr hd).2 (g2 v hv)⟩
      simp [hx, hvs, hl2, q2, q3, q5]
      refine ⟨fun hvr => ?_, fun hvr => hno j fun h => hvr (by rw [(hcg.1 h).1])⟩
      have hvr2 : vs.length = t.2.1.length := by omega
      refine twp_for t.2.1.length (fun i s2 => s2.t 2 = .pt [(4, 0)] 0 0 ∧ s2.t 3 = .pt [(5, 0)] 0 0 ∧ s2.t 5 = .i .i64 j ∧ s2.t 6 = .i .i64 i ∧ kindsUp d.2 (vs.take i) ∧ s2.H = lk [(1, []), (4, [.po true [.sl false 2 (c.map dT), .sl false 2 (r.map dT), .sl false 2 (e.map dT)]]), (5, [.po true (tbT t)])]) [] (by simp) ?_ ?_
      · simp [q2, q3, q5, kindsUp_nil]
      · rintro i s2 hi ⟨p2, p3, p5, p6, hV, pH⟩
        rw [nf_of pH]
        simp [p2, p3, p5, p6]
        refine ⟨fun hlt2 => ?_, fun hge2 => ?_⟩
        · have hwi : IntKind.i64.wrap (i + 1) = i + 1 := wrap_id (by omega) (by omega)
          obtain ⟨v, hv⟩ := get_some (show i < vs.length by omega)
          have hsn := take_snoc hv
          simp [hv, hx, hvs, hl2, p2, p3, p5, p6]
          by_cases hk : fitP c x v
          · refine callW_ms [.ro, .ro, .ro] ?_
            simp [regR, valV]
            refine callX_of ((w48 c r e x v (hvf v (List.mem_of_getElem? hv)) hc).t hk) (by simp) ?_
            simp [hwi, p2, p3, p5, p6]
            rw [hsn]
            exact ⟨by omega, kindsUp_snoc hV ((fitP_of hxr hd).1 hk)⟩
          · refine callW_ms [.ro, .ro, .ro] ?_
            simp [regR, valV]
            refine callX_of ((w48 c r e x v (hvf v (List.mem_of_getElem? hv)) hc).f hk) (by simp) ?_
            simp [hwi, p2, p3, p5, p6]
            exact hno j fun h => hk ((fitP_of hxr hd).2 ((hcg.1 h).2 v (List.mem_of_getElem? hv)))
        · obtain rfl : i = t.2.1.length := by omega
          rw [List.take_of_length_le (by omega)] at hV
          exact ⟨hlt, hw, colsUp_succ.2 ⟨hU, hcg.2 ⟨hvr2, hV⟩⟩⟩
    · obtain rfl : j = t.1.length := by omega
      exact ⟨⟨hl1, by omega⟩, hcol, hl2, colsUp_all hU⟩
end Go.Proofs.YtehmdblkkpdmoaaGreatT


namespace Go.Proofs.YtehmdblkkpdmoaaGreatT
set_option linter.unusedVariables false
set_option linter.unusedSimpArgs false
open Go
def c27 : TCode := (.seq (.ops [⟨(some 2), 4, .box 3 (.t 0), none, []⟩, ⟨(some 3), 5, .box 4 (.t 1), none, []⟩, ⟨(some 4), 6, .mv (.c (.b false)), none, []⟩])
  (.seq (.seq (.ops [⟨(some 15), 17, .load true 3 (.t 2), none, []⟩, ⟨(some 16), 18, .call 59 [((.t 15), 0)], none, []⟩, ⟨(some 17), 19, .un .not (.t 16), none, []⟩, ⟨(some 18), 20, .mv (.t 17), none, []⟩, ⟨(some 19), 21, .faddr 0 2 (.t 3), (some (18, false)), []⟩, ⟨(some 20), 22, .load true 2 (.t 19), (some (18, false)), []⟩, ⟨(some 21), 23, .call 60 [((.t 20), 0)], (some (18, false)), []⟩, ⟨(some 22), 24, .un .not (.t 21), (some (18, false)), []⟩, ⟨(some 23), 25, .pick (.t 18) (.c (.b true)) (.t 22), none, []⟩, ⟨(some 24), 26, .mv (.t 23), none, []⟩, ⟨(some 25), 27, .faddr 2 1 (.t 3), (some (24, false)), []⟩, ⟨(some 26), 28, .load false 1 (.t 25), (some (24, false)), []⟩, ⟨(some 27), 29, .len false (.t 26), (some (24, false)), []⟩, ⟨(some 28), 30, .bin .gtr (.t 27) (.c (.i .i64 40)), (some (24, false)), []⟩, ⟨(some 29), 31, .pick (.t 24) (.c (.b true)) (.t 28), none, []⟩, ⟨(some 30), 32, .mv (.t 29), none, []⟩, ⟨(some 31), 33, .faddr 3 1 (.t 3), (some (30, false)), []⟩, ⟨(some 32), 34, .load false 1 (.t 31), (some (30, false)), []⟩, ⟨(some 33), 35, .len false (.t 32), (some (30, false)), []⟩, ⟨(some 34), 36, .faddr 1 1 (.t 2), (some (30, false)), []⟩, ⟨(some 35), 37, .load false 1 (.t 34), (some (30, false)), []⟩, ⟨(some 36), 38, .len false (.t 35), (some (30, false)), []⟩, ⟨(some 37), 39, .bin .neq (.t 33) (.t 36), (some (30, false)), []⟩, ⟨(some 38), 40, .pick (.t 30) (.c (.b true)) (.t 37), none, []⟩])
  (.cond (.t 38)
  (.seq (.ops [⟨(some 4), 6, .mv (.c (.b false)), none, []⟩])
  .ret)
  .skip))
  (.seq (.seq (.ops [⟨(some 5), 7, .mv (.c (.i .i64 0)), none, []⟩])
  (.block 0 (.loop (.seq (.seq (.ops [⟨(some 39), 41, .mv (.t 5), none, []⟩, ⟨(some 40), 42, .faddr 3 1 (.t 3), none, []⟩, ⟨(some 41), 43, .load false 1 (.t 40), none, []⟩, ⟨(some 42), 44, .len false (.t 41), none, []⟩, ⟨(some 43), 45, .bin .lss (.t 39) (.t 42), none, []⟩])
  (.cond (.t 43)
  .skip
  (.exit 0)))
  (.seq (.block 1 (.seq (.draw [⟨(some 46), 48, .faddr 3 1 (.t 3), none, []⟩, ⟨(some 47), 49, .load false 1 (.t 46), none, []⟩, ⟨(some 48), 50, .mv (.t 5), none, []⟩, ⟨(some 49), 51, .iaddr 4 (.t 47) (.t 48), none, []⟩, ⟨(some 50), 52, .load true 4 (.t 49), none, []⟩, ⟨(some 51), 53, .call 61 [((.t 50), 0)], none, []⟩, ⟨(some 52), 54, .un .not (.t 51), none, []⟩, ⟨(some 53), 55, .mv (.t 52), none, []⟩, ⟨(some 54), 56, .faddr 3 1 (.t 3), (some (53, false)), []⟩, ⟨(some 55), 57, .load false 1 (.t 54), (some (53, false)), []⟩, ⟨(some 56), 58, .mv (.t 5), (some (53, false)), []⟩, ⟨(some 57), 59, .iaddr 4 (.t 55) (.t 56), (some (53, false)), []⟩, ⟨(some 58), 60, .faddr 0 1 (.t 57), (some (53, false)), []⟩, ⟨(some 59), 61, .load false 1 (.t 58), (some (53, false)), []⟩, ⟨(some 60), 62, .faddr 1 1 (.t 2), (some (53, false)), []⟩, ⟨(some 61), 63, .load false 1 (.t 60), (some (53, false)), []⟩, ⟨(some 62), 64, .mv (.t 5), (some (53, false)), []⟩, ⟨(some 63), 65, .iaddr 2 (.t 61) (.t 62), (some (53, false)), []⟩, ⟨(some 64), 66, .faddr 1 1 (.t 63), (some (53, false)), []⟩, ⟨(some 65), 67, .load false 1 (.t 64), (some (53, false)), []⟩, ⟨(some 66), 68, .bin .neq (.t 59) (.t 65), (some (53, false)), []⟩, ⟨(some 67), 69, .pick (.t 53) (.c (.b true)) (.t 66), none, []⟩])
  (.cond (.t 67)
  (.seq (.ops [⟨(some 4), 6, .mv (.c (.b false)), none, []⟩])
  .ret)
  .skip)))
  (.ops [⟨(some 44), 46, .mv (.t 5), none, []⟩, ⟨(some 45), 47, .bin .add (.t 44) (.c (.i .i64 1)), none, []⟩, ⟨(some 5), 7, .mv (.t 45), none, []⟩]))))))
  (.seq (.ops [⟨(some 68), 70, .faddr 0 2 (.t 3), none, []⟩, ⟨(some 69), 71, .faddr 0 1 (.t 68), none, []⟩, ⟨(some 70), 72, .load false 1 (.t 69), none, []⟩, ⟨(some 71), 73, .len false (.t 70), none, []⟩, ⟨(some 72), 74, .mkslice 1 1 [(.b false)] (.t 71) (.t 71), none, []⟩, ⟨(some 6), 8, .mv (.t 72), none, []⟩])
  (.seq (.ops [⟨(some 73), 75, .faddr 0 2 (.t 3), none, []⟩, ⟨(some 74), 76, .load true 2 (.t 73), none, []⟩, ⟨(some 75), 77, .call 62 [((.t 74), 0)], none, []⟩, ⟨(some 7), 9, .mv (.t 75), none, []⟩])
  (.seq (.seq (.ops [⟨(some 8), 10, .mv (.c (.i .i64 0)), none, []⟩])
  (.block 2 (.loop (.seq (.seq (.ops [⟨(some 76), 78, .mv (.t 8), none, []⟩, ⟨(some 77), 79, .mv (.t 7), none, []⟩, ⟨(some 78), 80, .len false (.t 77), none, []⟩, ⟨(some 79), 81, .bin .lss (.t 76) (.t 78), none, []⟩])
  (.cond (.t 79)
  .skip
  (.exit 2)))
  (.seq (.block 3 (.ops [⟨(some 82), 84, .mv (.t 6), none, []⟩, ⟨(some 83), 85, .mv (.t 7), none, []⟩, ⟨(some 84), 86, .mv (.t 8), none, []⟩, ⟨(some 85), 87, .iaddr 2 (.t 83) (.t 84), none, []⟩, ⟨(some 86), 88, .faddr 0 1 (.t 85), none, []⟩, ⟨(some 87), 89, .load false 1 (.t 86), none, []⟩, ⟨(some 88), 90, .iaddr 1 (.t 82) (.t 87), none, []⟩, ⟨none, 1013007, .store 1 (.t 88) (.c (.b true)), none, []⟩]))
  (.ops [⟨(some 80), 82, .mv (.t 8), none, []⟩, ⟨(some 81), 83, .bin .add (.t 80) (.c (.i .i64 1)), none, []⟩, ⟨(some 8), 10, .mv (.t 81), none, []⟩]))))))
  (.seq (.ops [⟨(some 9), 11, .mv (.c (.i .i64 0)), none, []⟩])
  (.seq (.seq (.ops [⟨(some 10), 12, .mv (.c (.i .i64 0)), none, []⟩])
  (.block 4 (.loop (.seq (.seq (.ops [⟨(some 89), 91, .mv (.t 10), none, []⟩, ⟨(some 90), 92, .faddr 2 1 (.t 3), none, []⟩, ⟨(some 91), 93, .load false 1 (.t 90), none, []⟩, ⟨(some 92), 94, .len false (.t 91), none, []⟩, ⟨(some 93), 95, .bin .lss (.t 89) (.t 92), none, []⟩])
  (.cond (.t 93)
  .skip
  (.exit 4)))
  (.seq (.block 5 (.seq (.ops [⟨(some 96), 98, .faddr 2 1 (.t 3), none, []⟩, ⟨(some 97), 99, .load false 1 (.t 96), none, []⟩, ⟨(some 98), 100, .mv (.t 10), none, []⟩, ⟨(some 99), 101, .iaddr 3 (.t 97) (.t 98), none, []⟩, ⟨(some 100), 102, .load true 3 (.t 99), none, []⟩, ⟨(some 11), 13, .box 3 (.c (.ag [(.sl true 1 []), (.sl true 2 []), (.sl true 1 [])])), none, []⟩, ⟨none, 1018006, .store 3 (.t 11) (.t 100), none, []⟩])
  (.seq (.seq (.ops [⟨(some 101), 103, .load true 3 (.t 2), none, []⟩, ⟨(some 102), 104, .load true 3 (.t 11), none, []⟩, ⟨(some 103), 105, .call 63 [((.t 101), 0), ((.t 102), 0)], none, []⟩, ⟨(some 104), 106, .un .not (.t 103), none, []⟩])
  (.cond (.t 104)
  (.seq (.ops [⟨(some 4), 6, .mv (.c (.b false)), none, []⟩])
  .ret)
  .skip))
  (.seq (.seq (.ops [⟨(some 12), 14, .mv (.c (.i .i64 0)), none, []⟩])
  (.block 6 (.loop (.seq (.seq (.ops [⟨(some 105), 107, .mv (.t 12), none, []⟩, ⟨(some 106), 108, .mv (.t 10), none, []⟩, ⟨(some 107), 109, .bin .lss (.t 105) (.t 106), none, []⟩])
  (.cond (.t 107)
  .skip
  (.exit 6)))
  (.seq (.block 7 (.seq (.draw [⟨(some 110), 112, .faddr 2 1 (.t 3), none, []⟩, ⟨(some 111), 113, .load false 1 (.t 110), none, []⟩, ⟨(some 112), 114, .mv (.t 12), none, []⟩, ⟨(some 113), 115, .iaddr 3 (.t 111) (.t 112), none, []⟩, ⟨(some 114), 116, .faddr 0 1 (.t 113), none, []⟩, ⟨(some 115), 117, .load false 1 (.t 114), none, []⟩, ⟨(some 116), 118, .faddr 0 1 (.t 11), none, []⟩, ⟨(some 117), 119, .load false 1 (.t 116), none, []⟩, ⟨(some 118), 120, .call 64 [((.t 115), 0), ((.t 117), 0)], none, []⟩])
  (.cond (.t 118)
  (.seq (.ops [⟨(some 4), 6, .mv (.c (.b false)), none, []⟩])
  .ret)
  .skip)))
  (.ops [⟨(some 108), 110, .mv (.t 12), none, []⟩, ⟨(some 109), 111, .bin .add (.t 108) (.c (.i .i64 1)), none, []⟩, ⟨(some 12), 14, .mv (.t 109), none, []⟩]))))))
  (.seq (.ops [⟨(some 13), 15, .mv (.c (.i .i64 0)), none, []⟩])
  (.block 8 (.loop (.seq (.seq (.ops [⟨(some 119), 121, .mv (.t 13), none, []⟩, ⟨(some 120), 122, .faddr 1 1 (.t 11), none, []⟩, ⟨(some 121), 123, .load false 1 (.t 120), none, []⟩, ⟨(some 122), 124, .len false (.t 121), none, []⟩, ⟨(some 123), 125, .bin .lss (.t 119) (.t 122), none, []⟩])
  (.cond (.t 123)
  .skip
  (.exit 8)))
  (.seq (.block 9 (.seq (.ops [⟨(some 126), 128, .faddr 1 1 (.t 11), none, []⟩, ⟨(some 127), 129, .load false 1 (.t 126), none, []⟩, ⟨(some 128), 130, .mv (.t 13), none, []⟩, ⟨(some 129), 131, .iaddr 2 (.t 127) (.t 128), none, []⟩, ⟨(some 130), 132, .load true 2 (.t 129), none, []⟩, ⟨(some 14), 16, .box 2 (.c (.ag [(.i .i64 0), (.i .i64 0)])), none, []⟩, ⟨none, 1029006, .store 2 (.t 14) (.t 130), none, []⟩])
  (.seq (.seq (.draw [⟨(some 131), 133, .faddr 0 1 (.t 14), none, []⟩, ⟨(some 132), 134, .load false 1 (.t 131), none, []⟩, ⟨(some 133), 135, .mv (.t 6), none, []⟩, ⟨(some 134), 136, .len false (.t 133), none, []⟩, ⟨(some 135), 137, .bin .sub (.t 134) (.c (.i .i64 1)), none, []⟩, ⟨(some 136), 138, .call 52 [((.t 132), 0), ((.c (.i .i64 0)), 0), ((.t 135), 0)], none, []⟩, ⟨(some 137), 139, .un .not (.t 136), none, []⟩, ⟨(some 138), 140, .mv (.t 137), none, []⟩, ⟨(some 139), 141, .mv (.t 6), (some (138, false)), []⟩, ⟨(some 140), 142, .faddr 0 1 (.t 14), (some (138, false)), []⟩, ⟨(some 141), 143, .load false 1 (.t 140), (some (138, false)), []⟩, ⟨(some 142), 144, .iaddr 1 (.t 139) (.t 141), (some (138, false)), []⟩, ⟨(some 143), 145, .load false 1 (.t 142), (some (138, false)), []⟩, ⟨(some 144), 146, .un .not (.t 143), (some (138, false)), []⟩, ⟨(some 145), 147, .pick (.t 138) (.c (.b true)) (.t 144), none, []⟩, ⟨(some 146), 148, .mv (.t 145), none, []⟩, ⟨(some 147), 149, .faddr 0 2 (.t 3), (some (146, false)), []⟩, ⟨(some 148), 150, .faddr 0 1 (.t 147), (some (146, false)), []⟩, ⟨(some 149), 151, .load false 1 (.t 148), (some (146, false)), []⟩, ⟨(some 150), 152, .faddr 0 1 (.t 14), (some (146, false)), []⟩, ⟨(some 151), 153, .load false 1 (.t 150), (some (146, false)), []⟩, ⟨(some 152), 154, .iaddr 1 (.t 149) (.t 151), (some (146, false)), []⟩, ⟨(some 153), 155, .load false 1 (.t 152), (some (146, false)), []⟩, ⟨(some 154), 156, .faddr 1 1 (.t 14), (some (146, false)), []⟩, ⟨(some 155), 157, .load false 1 (.t 154), (some (146, false)), []⟩, ⟨(some 156), 158, .bin .neq (.t 153) (.t 155), (some (146, false)), []⟩, ⟨(some 157), 159, .pick (.t 146) (.c (.b true)) (.t 156), none, []⟩])
  (.cond (.t 157)
  (.seq (.ops [⟨(some 4), 6, .mv (.c (.b false)), none, []⟩])
  .ret)
  .skip))
  (.seq (.ops [⟨(some 158), 160, .mv (.t 6), none, []⟩, ⟨(some 159), 161, .faddr 0 1 (.t 14), none, []⟩, ⟨(some 160), 162, .load false 1 (.t 159), none, []⟩, ⟨(some 161), 163, .iaddr 1 (.t 158) (.t 160), none, []⟩, ⟨none, 1032004, .store 1 (.t 161) (.c (.b false)), none, []⟩])
  (.ops [⟨(some 162), 164, .mv (.t 9), none, []⟩, ⟨(some 163), 165, .bin .add (.t 162) (.c (.i .i64 1)), none, []⟩, ⟨(some 9), 11, .mv (.t 163), none, []⟩])))))
  (.ops [⟨(some 124), 126, .mv (.t 13), none, []⟩, ⟨(some 125), 127, .bin .add (.t 124) (.c (.i .i64 1)), none, []⟩, ⟨(some 13), 15, .mv (.t 125), none, []⟩]))))))))))
  (.ops [⟨(some 94), 96, .mv (.t 10), none, []⟩, ⟨(some 95), 97, .bin .add (.t 94) (.c (.i .i64 1)), none, []⟩, ⟨(some 10), 12, .mv (.t 95), none, []⟩]))))))
  (.seq (.ops [⟨(some 164), 166, .mv (.t 9), none, []⟩, ⟨(some 165), 167, .mv (.t 7), none, []⟩, ⟨(some 166), 168, .len false (.t 165), none, []⟩, ⟨(some 167), 169, .bin .eql (.t 164) (.t 166), none, []⟩, ⟨(some 4), 6, .mv (.t 167), none, []⟩])
  .ret)))))))))
theorem k27 : compCode Tryz.prog Tryz.f27.ntmps Tryz.f27.body.get! = some c27 := by kernel_rfl
theorem r27 : resTmps Tryz.prog Tryz.f27.results.toList = some [.tmp 4] := by kernel_rfl
def c35 : TCode := (.seq (.ops [⟨(some 2), 4, .box 3 (.t 0), none, []⟩, ⟨(some 3), 5, .box 4 (.t 1), none, []⟩, ⟨(some 4), 6, .mv (.c (.b false)), none, []⟩])
  (.seq (.seq (.ops [⟨(some 9), 11, .load true 3 (.t 2), none, []⟩, ⟨(some 10), 12, .call 77 [((.t 9), 0)], none, []⟩, ⟨(some 11), 13, .un .not (.t 10), none, []⟩, ⟨(some 12), 14, .mv (.t 11), none, []⟩, ⟨(some 13), 15, .faddr 0 2 (.t 3), (some (12, false)), []⟩, ⟨(some 14), 16, .load true 2 (.t 13), (some (12, false)), []⟩, ⟨(some 15), 17, .call 78 [((.t 14), 0)], (some (12, false)), []⟩, ⟨(some 16), 18, .un .not (.t 15), (some (12, false)), []⟩, ⟨(some 17), 19, .pick (.t 12) (.c (.b true)) (.t 16), none, []⟩, ⟨(some 18), 20, .mv (.t 17), none, []⟩, ⟨(some 19), 21, .faddr 2 1 (.t 3), (some (18, false)), []⟩, ⟨(some 20), 22, .load false 1 (.t 19), (some (18, false)), []⟩, ⟨(some 21), 23, .len false (.t 20), (some (18, false)), []⟩, ⟨(some 22), 24, .bin .gtr (.t 21) (.c (.i .i64 40)), (some (18, false)), []⟩, ⟨(some 23), 25, .pick (.t 18) (.c (.b true)) (.t 22), none, []⟩, ⟨(some 24), 26, .mv (.t 23), none, []⟩, ⟨(some 25), 27, .faddr 3 1 (.t 3), (some (24, false)), []⟩, ⟨(some 26), 28, .load false 1 (.t 25), (some (24, false)), []⟩, ⟨(some 27), 29, .len false (.t 26), (some (24, false)), []⟩, ⟨(some 28), 30, .faddr 1 1 (.t 2), (some (24, false)), []⟩, ⟨(some 29), 31, .load false 1 (.t 28), (some (24, false)), []⟩, ⟨(some 30), 32, .len false (.t 29), (some (24, false)), []⟩, ⟨(some 31), 33, .bin .neq (.t 27) (.t 30), (some (24, false)), []⟩, ⟨(some 32), 34, .pick (.t 24) (.c (.b true)) (.t 31), none, []⟩])
  (.cond (.t 32)
  (.seq (.ops [⟨(some 4), 6, .mv (.c (.b false)), none, []⟩])
  .ret)
  .skip))
  (.seq (.seq (.ops [⟨(some 33), 35, .faddr 2 1 (.t 3), none, []⟩, ⟨(some 34), 36, .load false 1 (.t 33), none, []⟩, ⟨(some 35), 37, .len false (.t 34), none, []⟩, ⟨(some 36), 38, .mv (.c (.i .i64 0)), none, []⟩])
  (.block 0 (.loop (.seq (.ops [⟨(some 37), 39, .bin .lss (.t 36) (.t 35), none, []⟩])
  (.seq (.cond (.t 37)
  .skip
  (.exit 0))
  (.seq (.block 1 (.seq (.ops [⟨(some 38), 40, .mv (.t 36), none, []⟩, ⟨(some 39), 41, .iaddr 3 (.t 34) (.t 36), none, []⟩, ⟨(some 40), 42, .load true 3 (.t 39), none, []⟩, ⟨(some 6), 8, .box 3 (.c (.ag [(.sl true 1 []), (.sl true 2 []), (.sl true 1 [])])), none, []⟩, ⟨(some 5), 7, .mv (.t 38), none, []⟩, ⟨none, 1005005, .store 3 (.t 6) (.t 40), none, []⟩])
  (.seq (.ops [⟨(some 41), 43, .load true 3 (.t 6), none, []⟩, ⟨(some 42), 44, .call 79 [((.t 2), 3), ((.t 41), 0)], none, []⟩, ⟨(some 43), 45, .un .not (.t 42), none, []⟩, ⟨(some 44), 46, .mv (.t 43), none, []⟩, ⟨(some 45), 47, .faddr 0 1 (.t 6), (some (44, false)), []⟩, ⟨(some 46), 48, .load false 1 (.t 45), (some (44, false)), []⟩, ⟨(some 47), 49, .call 80 [((.t 3), 0), ((.t 46), 0)], (some (44, false)), []⟩, ⟨(some 48), 50, .mv (.t 5), (some (44, false)), []⟩, ⟨(some 49), 51, .bin .neq (.t 47) (.t 48), (some (44, false)), []⟩, ⟨(some 50), 52, .pick (.t 44) (.c (.b true)) (.t 49), none, []⟩])
  (.cond (.t 50)
  (.seq (.ops [⟨(some 4), 6, .mv (.c (.b false)), none, []⟩])
  .ret)
  .skip))))
  (.ops [⟨(some 51), 53, .bin .add (.t 36) (.c (.i .i64 1)), none, []⟩, ⟨(some 36), 38, .mv (.t 51), none, []⟩])))))))
  (.seq (.seq (.ops [⟨(some 52), 54, .faddr 3 1 (.t 3), none, []⟩, ⟨(some 53), 55, .load false 1 (.t 52), none, []⟩, ⟨(some 54), 56, .len false (.t 53), none, []⟩, ⟨(some 55), 57, .mv (.c (.i .i64 0)), none, []⟩])
  (.block 2 (.loop (.seq (.ops [⟨(some 56), 58, .bin .lss (.t 55) (.t 54), none, []⟩])
  (.seq (.cond (.t 56)
  .skip
  (.exit 2))
  (.seq (.block 3 (.seq (.ops [⟨(some 57), 59, .mv (.t 55), none, []⟩, ⟨(some 58), 60, .iaddr 4 (.t 53) (.t 55), none, []⟩, ⟨(some 59), 61, .load true 4 (.t 58), none, []⟩, ⟨(some 8), 10, .box 4 (.c (.ag [(.i .i64 0), (.i .i64 0), (.f 0), (.f 0)])), none, []⟩, ⟨(some 7), 9, .mv (.t 57), none, []⟩, ⟨none, 1011005, .store 4 (.t 8) (.t 59), none, []⟩])
  (.seq (.draw [⟨(some 60), 62, .load true 4 (.t 8), none, []⟩, ⟨(some 61), 63, .faddr 1 1 (.t 2), none, []⟩, ⟨(some 62), 64, .load false 1 (.t 61), none, []⟩, ⟨(some 63), 65, .mv (.t 7), none, []⟩, ⟨(some 64), 66, .iaddr 2 (.t 62) (.t 63), none, []⟩, ⟨(some 65), 67, .faddr 1 1 (.t 64), none, []⟩, ⟨(some 66), 68, .load false 1 (.t 65), none, []⟩, ⟨(some 67), 69, .call 81 [((.t 60), 0), ((.t 66), 0)], none, []⟩, ⟨(some 68), 70, .un .not (.t 67), none, []⟩])
  (.cond (.t 68)
  (.seq (.ops [⟨(some 4), 6, .mv (.c (.b false)), none, []⟩])
  .ret)
  .skip))))
  (.ops [⟨(some 69), 71, .bin .add (.t 55) (.c (.i .i64 1)), none, []⟩, ⟨(some 55), 57, .mv (.t 69), none, []⟩])))))))
  (.seq (.ops [⟨(some 70), 72, .load true 4 (.t 3), none, []⟩, ⟨(some 71), 73, .call 82 [((.t 70), 0)], none, []⟩, ⟨(some 4), 6, .mv (.t 71), none, []⟩])
  .ret)))))
theorem k35 : compCode Tryz.prog Tryz.f35.ntmps Tryz.f35.body.get! = some c35 := by kernel_rfl
theorem r35 : resTmps Tryz.prog Tryz.f35.results.toList = some [.tmp 4] := by kernel_rfl
theorem idxP_iff {α : Type} {p : α → Bool} {l : List α} {x : α} {j : Nat} (h : l[j]? = some x) (hp : p x = true) : idxP p l = j ↔ ∀ y ∈ l.take j, p y = false := by
  refine ⟨fun hi => ?_, fun hn => idxP_at h hp hn⟩
  unfold idxP at hi
  split at hi
  · rename_i i he
    have hij : i = j := by omega
    subst hij
    rw [List.findIdx?_eq_some_iff_getElem] at he
    obtain ⟨hlt, -, hk⟩ := he
    intro y hy
    obtain ⟨k, hk1, rfl⟩ := List.mem_iff_getElem.1 hy
    rw [List.length_take] at hk1
    have := hk k (by omega)
    simpa using this
  · omega
def isT (cols : List Int) (t : TableP) : Bool := decide (t.1 = cols)
def noT (cols : List Int) (ts : List TableP) : Prop := ∀ y ∈ ts, isT cols y = false
theorem noT_nil (cols : List Int) : noT cols [] := fun _ h => by cases h
theorem noT_snoc {cols : List Int} {ts : List TableP} {t : TableP} (h : noT cols ts) (ht : isT cols t = false) : noT cols (ts ++ [t]) := fun x hx => by
  rcases List.mem_append.1 hx with hx | hx
  · exact h x hx
  · rw [List.mem_singleton.1 hx]; exact ht
def tabIx (ts : List TableP) (cols : List Int) : Int := idxP (isT cols) ts
theorem w80 (w : WorldP) (cols : List Int) (h : okW w) (hc : cols.length ≤ 2^40) : Contract Tryz.prog false 80 [.ro, .ro] [.po false [.sl false 1 (w.1.map iT), .sl false 1 (w.2.1.map iT), .sl false 3 (w.2.2.1.map tbT), .sl false 4 (w.2.2.2.map vT)], .sl false 1 (cols.map iT)] [.i .i64 (tabIx w.2.2.1 cols)] [] := by
  refine mk_contract [] Tryz.func80 (c := Tryz.f80.body.get!) (by kernel_rfl) k80 r80 (of_decide_eq_true rfl) fun _ => ?_
  obtain ⟨h1, h2, ⟨h3, h4⟩, h5⟩ := h
  obtain ⟨g, f, ts, rs⟩ := w
  simp only at h1 h2 h3 h4 h5 ⊢
  unfold c80; simp
  refine twp_for ts.length (fun j s => s.t 0 = .po false [.sl false 1 (g.map iT), .sl false 1 (f.map iT), .sl false 3 (ts.map tbT), .sl false 4 (rs.map vT)] ∧ s.t 1 = .sl false 1 (cols.map iT) ∧ s.t 10 = .i .i64 ts.length ∧ s.t 11 = .i .i64 j ∧ noT cols (ts.take j) ∧ s.H = lk [(1, [])]) [] (by simp) ?_ ?_
  · simp [noT_nil]
  · rintro j s hj ⟨q0, q1, q10, q11, hn, qH⟩
    rw [nf_of qH]
    simp [q0, q1, q10, q11]
    refine ⟨fun hlt => ?_, fun hge => ?_⟩
    · have hw : IntKind.i64.wrap (j + 1) = j + 1 := wrap_id (by omega) (by omega)
      obtain ⟨t, ht⟩ := get_some hlt
      have hm := List.mem_of_getElem? ht
      have hsn := take_snoc ht
      simp [ht, hw, q0, q1, q10, q11]
      by_cases hq : t.1 = cols
      · refine callW_ms [.ro, .ro] ?_
        simp
        refine callX_of ((w119 t.1 cols (by have := (h4 t hm).1; omega) hc).t hq) (by simp) ?_
        simp [hw, q0, q1, q10, q11]
        exact (idxP_at ht (by simp [isT, hq]) hn).symm
      · refine callW_ms [.ro, .ro] ?_
        simp
        refine callX_of ((w119 t.1 cols (by have := (h4 t hm).1; omega) hc).f hq) (by simp) ?_
        simp [hw, q0, q1, q10, q11]
        rw [hsn]
        exact ⟨hlt, noT_snoc hn (by simp [isT, hq])⟩
    · obtain rfl : j = ts.length := by omega
      rw [List.take_of_length_le (Nat.le_refl _)] at hn
      exact (idxP_none hn).symm
def resP (r : DeclsP) (rs : List ValP) : Prop := ∀ (i : Nat) (v : ValP) (d : ByteArray × Int), rs[i]? = some v → r[i]? = some d → ofK d.2 v
def resUp (r : DeclsP) (rs : List ValP) (j : Nat) : Prop := ∀ (i : Nat) (v : ValP) (d : ByteArray × Int), i < j → rs[i]? = some v → r[i]? = some d → ofK d.2 v
theorem resUp_zero (r : DeclsP) (rs : List ValP) : resUp r rs 0 := fun i v d h => by omega
theorem resUp_succ {r : DeclsP} {rs : List ValP} {j : Nat} {v : ValP} {d : ByteArray × Int} (hv : rs[j]? = some v) (hd : r[j]? = some d) : resUp r rs (j + 1) ↔ resUp r rs j ∧ ofK d.2 v := by
  constructor
  · intro h; exact ⟨fun i v d hi => h i v d (by omega), h j v d (by omega) hv hd⟩
  · rintro ⟨h1, h2⟩ i v' d' hi hv' hd'
    by_cases hij : i = j
    · subst hij; rw [hv] at hv'; rw [hd] at hd'; cases hv'; cases hd'; exact h2
    · exact h1 i v' d' (by omega) hv' hd'
theorem resUp_all {r : DeclsP} {rs : List ValP} : resUp r rs rs.length ↔ resP r rs :=
  ⟨fun h i v d hv => h i v d (List.getElem?_eq_some_iff.1 hv).1 hv, fun h i v d _ => h i v d⟩
def WorldOkP (c r e : DeclsP) (w : WorldP) : Prop := (RegOkP c r e ∧ EntsOkP w.1 w.2.1 ∧ w.2.2.1.length ≤ 40 ∧ w.2.2.2.length = r.length) ∧ resP r w.2.2.2 ∧ (∀ t ∈ w.2.2.1, tabP c t) ∧ (w.2.2.1.map (·.1)).Nodup ∧ rowsP w.1 w.2.1 (flatR w.2.2.1)
noncomputable instance (c r e : DeclsP) (w : WorldP) : Decidable (WorldOkP c r e w) := Classical.propDecidable _
def tabsUp (c : DeclsP) (ts : List TableP) : Prop := (∀ t ∈ ts, tabP c t) ∧ (ts.map (·.1)).Nodup
theorem tabsUp_nil (c : DeclsP) : tabsUp c [] := ⟨by simp, by simp⟩
theorem tabsUp_snoc {c : DeclsP} {ts : List TableP} {t : TableP} : tabsUp c (ts ++ [t]) ↔ tabsUp c ts ∧ tabP c t ∧ noT t.1 ts := by
  unfold tabsUp noT isT
  constructor
  · rintro ⟨h1, h2⟩
    rw [List.map_append] at h2
    have h3 := List.nodup_append.1 h2
    refine ⟨⟨fun x hx => h1 x (by simp [hx]), h3.1⟩, h1 t (by simp), fun y hy => ?_⟩
    have := h3.2.2 y.1 (List.mem_map_of_mem hy) t.1 (by simp)
    simpa using this
  · rintro ⟨⟨h1, h2⟩, h3, h4⟩
    refine ⟨fun x hx => ?_, ?_⟩
    · rcases List.mem_append.1 hx with hx | hx
      · exact h1 x hx
      · rw [List.mem_singleton.1 hx]; exact h3
    · rw [List.map_append]
      refine List.nodup_append.2 ⟨h2, by simp, fun x hx y hy => ?_⟩
      obtain ⟨z, hz, rfl⟩ := List.mem_map.1 hx
      simp at hy; subst hy
      have := h4 z hz
      simpa using this
theorem tabsUp_take {c : DeclsP} {ts : List TableP} (h : tabsUp c ts) (j : Nat) : tabsUp c (ts.take j) :=
  ⟨fun t ht => h.1 t (List.mem_of_mem_take ht), by rw [List.map_take]; exact h.2.sublist (List.take_sublist _ _)⟩
set_option maxHeartbeats 1000000 in
set_option maxRecDepth 100000 in
theorem w35 (c r e : DeclsP) (w : WorldP) (h : okW w) (hc : c.length ≤ 2^40) (hr : r.length ≤ 2^40) (he : e.length ≤ 2^40) (hs : ∀ l ∈ [c, r, e], ∀ d ∈ l, d.1.size ≤ 2^40) : Contract Tryz.prog false 35 [.ro, .ro] [regR c r e, worldR w.1 w.2.1 w.2.2.1 w.2.2.2] [.b (decide (WorldOkP c r e w))] [] := by
  refine mk_contract [] Tryz.func35 (c := Tryz.f35.body.get!) (by kernel_rfl) k35 r35 (of_decide_eq_true rfl) fun _ => ?_
  have hR := fun hE => w82 w h hE
  have hT := fun cols hc => w80 w cols h hc
  obtain ⟨h1, h2, ⟨h3, h4⟩, h5⟩ := h
  obtain ⟨g, f, ts, rs⟩ := w
  simp only at h1 h2 h3 h4 h5 hR hT ⊢
  unfold c35; unfold regR; simp
  by_cases hreg : RegOkP c r e
  rotate_left
  · refine callW_ms [.ro] ?_
    simp [regR]
    refine callX_of ((w77 c r e hc hr he hs).f hreg) (by simp) ?_
    simp
    exact fun h => hreg h.1.1
  refine callW_ms [.ro] ?_
  simp [regR]
  refine callX_of ((w77 c r e hc hr he hs).t hreg) (by simp) ?_
  simp
  by_cases hent : EntsOkP g f
  rotate_left
  · refine callW_ms [.ro] ?_
    simp [entsR]
    refine callX_of ((w78 g f (by omega) (by omega)).f hent) (by simp) ?_
    simp
    exact fun h => hent h.1.2.1
  refine callW_ms [.ro] ?_
  simp [entsR]
  refine callX_of ((w78 g f (by omega) (by omega)).t hent) (by simp) ?_
  simp
  cases hb1 : decide ((40 : Int) < (ts.length : Int))
  rotate_left
  · have : (40 : Int) < ts.length := of_decide_eq_true hb1
    have hno : ¬ WorldOkP c r e (g, f, ts, rs) := fun h => by have := h.1.2.2.1; simp only at this; omega
    simp [hb1, hno]
  have hl1 : ts.length ≤ 40 := by have := of_decide_eq_false hb1; omega
  simp [hb1]
  refine ⟨fun hl2 => ?_, fun hl2 => ?_⟩
  rotate_left
  · have : ¬ rs.length = r.length := by omega
    exact fun h => this h.1.2.2.2
  have hl3 : rs.length = r.length := by omega
  have hnoT : ∀ j, ¬ tabsUp c (ts.take j) → ¬ WorldOkP c r e (g, f, ts, rs) := fun j h h2 => h (tabsUp_take ⟨h2.2.2.1, h2.2.2.2.1⟩ j)
  refine twp_for ts.length (fun j s => s.t 2 = .pt [(4, 0)] 0 0 ∧ s.t 3 = .pt [(5, 0)] 0 0 ∧ s.t 34 = .sl false 3 (ts.map tbT) ∧ s.t 35 = .i .i64 ts.length ∧ s.t 36 = .i .i64 j ∧ tabsUp c (ts.take j) ∧ s.H = lk [(1, []), (4, [.po true [.sl false 2 (c.map dT), .sl false 2 (r.map dT), .sl false 2 (e.map dT)]]), (5, [.po true [.sl false 1 (g.map iT), .sl false 1 (f.map iT), .sl false 3 (ts.map tbT), .sl false 4 (rs.map vT)]])]) [8] (by simp) ?_ ?_
  · simp [tabsUp_nil]
  · rintro j s hj ⟨q2, q3, q34, q35, q36, hU, qH⟩
    rw [nf_of qH]
    simp [q2, q3, q34, q35, q36]
    refine ⟨fun hlt => ?_, fun hge => ?_⟩
    · have hw : IntKind.i64.wrap (j + 1) = j + 1 := wrap_id (by omega) (by omega)
      obtain ⟨t, ht⟩ := get_some hlt
      have hm := List.mem_of_getElem? ht
      have hsn := take_snoc ht
      have htk := h4 t hm
      have hno := hnoT (j + 1)
      rw [hsn, tabsUp_snoc] at hno
      simp [ht, hw, q2, q3, q34, q35, q36]
      by_cases htp : tabP c t
      rotate_left
      · refine callW_ms [.ro, .ro] ?_
        simp
        refine callX_of ((w79 c r e t htk hc).f htp) (by simp) ?_
        simp [hw, q2, q3, q34, q35, q36]
        exact hno fun h => htp h.2.1
      refine callW_ms [.ro, .ro] ?_
      simp
      refine callX_of ((w79 c r e t htk hc).t htp) (by simp) ?_
      simp [hw, q2, q3, q34, q35, q36]
      refine callW_ms [.ro, .ro] ?_
      simp
      refine callX_of (hT t.1 (by have := htk.1; omega)) (by simp) ?_
      have hix := idxP_iff (p := isT t.1) ht (by simp [isT])
      have hiy : tabIx ts t.1 = j ↔ noT t.1 (ts.take j) := hix
      by_cases hi : tabIx ts t.1 = j
      · simp [hi, hw, q2, q3, q34, q35, q36]
        rw [hsn]
        exact ⟨hlt, tabsUp_snoc.2 ⟨hU, htp, hiy.1 hi⟩⟩
      · simp [hi, hw, q2, q3, q34, q35, q36]
        exact hno fun h => hi (hiy.2 h.2.2)
    · obtain rfl : j = ts.length := by omega
      rw [List.take_of_length_le (Nat.le_refl _)] at hU
      simp [q2, q3, q34, q35, q36]
      refine twp_for rs.length (fun j s => s.t 2 = .pt [(4, 0)] 0 0 ∧ s.t 3 = .pt [(5, 0)] 0 0 ∧ s.t 53 = .sl false 4 (rs.map vT) ∧ s.t 54 = .i .i64 rs.length ∧ s.t 55 = .i .i64 j ∧ resUp r rs j ∧ s.H = lk [(1, []), (4, [.po true [.sl false 2 (c.map dT), .sl false 2 (r.map dT), .sl false 2 (e.map dT)]]), (5, [.po true [.sl false 1 (g.map iT), .sl false 1 (f.map iT), .sl false 3 (ts.map tbT), .sl false 4 (rs.map vT)]])]) [10] (by simp) ?_ ?_
      · simp [q2, q3, resUp_zero]
      · rintro j s hj ⟨q2, q3, q53, q54, q55, hV, qH⟩
        rw [nf_of qH]
        simp [q2, q3, q53, q54, q55]
        refine ⟨fun hlt => ?_, fun hge => ?_⟩
        · have hw : IntKind.i64.wrap (j + 1) = j + 1 := wrap_id (by omega) (by omega)
          obtain ⟨v, hv⟩ := get_some hlt
          obtain ⟨d, hd⟩ := get_some (show j < r.length by omega)
          simp [hv, hd, hw, q2, q3, q53, q54, q55]
          by_cases hk : ofK d.2 v
          · refine callW_ms [.ro, .ro] ?_
            simp [valV]
            refine callX_of ((w81 v d.2).t hk) (by simp) ?_
            simp [hw, q2, q3, q53, q54, q55]
            exact ⟨hlt, (resUp_succ hv hd).2 ⟨hV, hk⟩⟩
          · refine callW_ms [.ro, .ro] ?_
            simp [valV]
            refine callX_of ((w81 v d.2).f hk) (by simp) ?_
            simp [hw, q2, q3, q53, q54, q55]
            exact fun h => hk (h.2.1 j v d hv hd)
        · obtain rfl : j = rs.length := by omega
          simp [q2, q3, q53, q54, q55]
          refine callW_ms [.ro] ?_
          simp
          refine callX_of (hR hent.2.1) (by simp [worldR]) ?_
          simp [q2, q3, q53, q54, q55]
          exact ⟨fun h => ⟨⟨hreg, hent, hl1, hl3⟩, resUp_all.1 hV, hU.1, hU.2, h⟩, fun h => h.2.2.2.2⟩
end Go.Proofs.YtehmdblkkpdmoaaGreatT


namespace Go.Proofs.YtehmdblkkpdmoaaGreatT
set_option linter.unusedVariables false
set_option linter.unusedSimpArgs false
open Go
theorem colsP_len {l : List Int} {n : Nat} (h : colsP l n) : l.length ≤ n :=
  len_le_of_nodup n l (fun x hx => by have := h.1 x hx; omega) (h.2.imp fun h => by omega)
theorem WorldOkP_stab {c r e : DeclsP} {w : WorldP} (h : WorldOkP c r e w) : ∀ t ∈ w.2.2.1, stabP c t := by
  intro t ht
  have hc := h.1.1.1.1
  have ht2 := h.2.2.1 t ht
  have hl := colsP_len ht2.1
  have hg := rowsG_len h.2.2.2.2.1
  have hG := h.1.2.1.2.2
  have hs : t.2.1.length ≤ (flatR w.2.2.1).length := by
    obtain ⟨j, hj⟩ := List.mem_iff_getElem?.1 ht
    obtain ⟨rest, hr⟩ := flatR_pre hj t.2.1.length
    rw [hr, List.take_of_length_le (Nat.le_refl _)]
    simp; omega
  exact ⟨⟨by omega, by omega⟩, ht2⟩
theorem countP_lt (f : List Int) (n : Nat) : f.countP (fun x => decide (x < ((n + 1 : Nat) : Int))) = f.countP (fun x => decide (x < (n : Int))) + f.count (n : Int) := by
  induction f with
  | nil => rfl
  | cons a l ih =>
    simp only [List.countP_cons, List.count_cons, ih, decide_eq_true_eq, beq_iff_eq]
    by_cases h1 : a < (n : Int)
    · rw [if_pos (show a < ((n + 1 : Nat) : Int) by omega), if_pos h1, if_neg (show ¬ a = (n : Int) by omega)]; omega
    · by_cases h3 : a = (n : Int)
      · rw [if_pos (show a < ((n + 1 : Nat) : Int) by omega), if_neg h1, if_pos h3]; omega
      · rw [if_neg (show ¬ a < ((n + 1 : Nat) : Int) by omega), if_neg h1, if_neg h3]; omega
theorem liveG_cnt (g : List Int) {f : List Int} (hf : f.Nodup) (n : Nat) (h0 : ∀ x ∈ f, 0 ≤ x) : (liveG g f n).length + f.countP (fun x => decide (x < (n : Int))) = n := by
  induction n with
  | zero =>
    have : f.countP (fun x => decide (x < ((0 : Nat) : Int))) = 0 := List.countP_eq_zero.2 fun x hx => by have := h0 x hx; simp; omega
    rw [this]; rfl
  | succ n ih =>
    rw [countP_lt, hf.count]
    simp only [liveG, List.length_append]
    split <;> simp <;> omega
theorem live_len {g f : List Int} (h : freeOk g.length f) : (liveG g f g.length).length + f.length = g.length := by
  have := liveG_cnt g h.2 g.length fun x hx => (h.1 x hx).1
  have h2 : f.countP (fun x => decide (x < (g.length : Int))) = f.length := List.countP_eq_length.2 fun x hx => by have := (h.1 x hx).2; simpa using this
  omega
theorem live_mem (g f : List Int) (n : Nat) (x : Int) : x ∈ atsR (liveG g f n) ↔ (0 ≤ x ∧ x < n) ∧ x ∉ f := by
  induction n with
  | zero => simp [liveG, atsR]; omega
  | succ n ih =>
    unfold atsR at ih ⊢
    simp only [liveG, List.map_append, List.mem_append, ih]
    by_cases h : (n : Int) ∈ f
    · simp only [if_pos h, List.map_nil, List.not_mem_nil, or_false]
      constructor
      · rintro ⟨h1, h2⟩; exact ⟨⟨h1.1, by omega⟩, h2⟩
      · rintro ⟨h1, h2⟩
        refine ⟨⟨h1.1, ?_⟩, h2⟩
        have : x ≠ n := by rintro rfl; exact h2 h
        omega
    · simp only [if_neg h, List.map_cons, List.map_nil, List.mem_singleton]
      constructor
      · rintro (⟨h1, h2⟩ | rfl)
        · exact ⟨⟨h1.1, by omega⟩, h2⟩
        · exact ⟨⟨by omega, by omega⟩, h⟩
      · rintro ⟨h1, h2⟩
        by_cases hx : x = n
        · exact .inr hx
        · exact .inl ⟨⟨h1.1, by omega⟩, h2⟩
def leftL (n : Nat) (L B : List Int) : List Bool := (List.range n).map fun (i : Nat) => decide ((i : Int) ∈ L ∧ (i : Int) ∉ B)
@[simp] theorem leftL_len (n : Nat) (L B : List Int) : (leftL n L B).length = n := by simp [leftL]
theorem leftL_get {n : Nat} {L B : List Int} {x : Int} (h0 : 0 ≤ x) (h1 : x < n) : (leftL n L B)[x.toNat]? = some (decide (x ∈ L ∧ x ∉ B)) := by
  have h : x.toNat < n := by omega
  simp [leftL, h, Int.toNat_of_nonneg h0]
theorem leftL_nil (n : Nat) (L : List Int) : leftL n L [] = freeL n L := by simp [leftL, freeL]
theorem leftL_set {n : Nat} {L B : List Int} {x : Int} (h0 : 0 ≤ x) (h1 : x < n) : (leftL n L B).set x.toNat false = leftL n L (B ++ [x]) := by
  have h : x.toNat < n := by omega
  apply List.ext_getElem?
  intro i
  rw [List.getElem?_set]
  simp only [leftL, List.getElem?_map]
  by_cases hi : i < n
  · by_cases hx : x.toNat = i
    · subst hx; simp [h, Int.toNat_of_nonneg h0]
    · have : (i : Int) ≠ x := by omega
      simp [hx, hi, this]
  · have : ¬ x.toNat = i := by omega
    simp [hi, this]
theorem leftL_map {n : Nat} {L B : List Int} {x : Int} (h0 : 0 ≤ x) (h1 : x < n) : ((leftL n L B).map bT).set x.toNat [.b false] = (leftL n L (B ++ [x])).map bT := by
  rw [← leftL_set h0 h1]; simp
theorem freeL_map {n : Nat} {L : List Int} {x : Int} (h0 : 0 ≤ x) (h1 : x < n) : ((freeL n L).map bT).set x.toNat [.b true] = (freeL n (L ++ [x])).map bT := by
  rw [← freeL_set h0 h1]; simp
set_option maxHeartbeats 2000000 in
set_option maxRecDepth 100000 in
theorem w27 (c r e : DeclsP) (w : WorldP) (h : okW w) (hc : c.length ≤ 2^40) (hr : r.length ≤ 2^40) (he : e.length ≤ 2^40) (hf1 : ∀ t ∈ w.2.2.1, ∀ vs ∈ t.2.2, valsF vs) (hf2 : valsF w.2.2.2) : Contract Tryz.prog false 27 [.ro, .ro] [regR c r e, worldR w.1 w.2.1 w.2.2.1 w.2.2.2] [.b (decide (WorldOkP c r e w))] [] := by
  refine mk_contract [] Tryz.func27 (c := Tryz.f27.body.get!) (by kernel_rfl) k27 r27 (of_decide_eq_true rfl) fun _ => ?_
  have hST := WorldOkP_stab (c := c) (r := r) (e := e) (w := w)
  obtain ⟨h1, h2, ⟨h3, h4⟩, h5⟩ := h
  obtain ⟨g, f, ts, rs⟩ := w
  simp only at h1 h2 h3 h4 h5 hf1 hf2 hST ⊢
  unfold c27; unfold regR; simp
  by_cases hreg : RegOkP c r e
  rotate_left
  · refine callW_ms [.ro] ?_
    simp [regR]
    refine callX_of ((w59 c r e hc hr he).f hreg) (by simp) ?_
    simp
    exact fun h => hreg h.1.1
  refine callW_ms [.ro] ?_
  simp [regR]
  refine callX_of ((w59 c r e hc hr he).t hreg) (by simp) ?_
  simp
  by_cases hent : EntsOkP g f
  rotate_left
  · refine callW_ms [.ro] ?_
    simp [entsR]
    refine callX_of ((w60 g f (by omega) (by omega)).f hent) (by simp) ?_
    simp
    exact fun h => hent h.1.2.1
  refine callW_ms [.ro] ?_
  simp [entsR]
  refine callX_of ((w60 g f (by omega) (by omega)).t hent) (by simp) ?_
  simp
  cases hb1 : decide ((40 : Int) < (ts.length : Int))
  rotate_left
  · have : (40 : Int) < ts.length := of_decide_eq_true hb1
    have hno : ¬ WorldOkP c r e (g, f, ts, rs) := fun h => by have := h.1.2.2.1; simp only at this; omega
    simp [hb1, hno]
  have hl1 : ts.length ≤ 40 := by have := of_decide_eq_false hb1; omega
  simp [hb1]
  refine ⟨fun hl2 => ?_, fun hl2 => ?_⟩
  rotate_left
  · have : ¬ rs.length = r.length := by omega
    exact fun h => this h.1.2.2.2
  have hl3 : rs.length = r.length := by omega
  have hnoT : ∀ j, ¬ tabsUp c (ts.take j) → ¬ WorldOkP c r e (g, f, ts, rs) := fun j h h2 => h (tabsUp_take ⟨h2.2.2.1, h2.2.2.2.1⟩ j)
  refine twp_for rs.length (fun j s => s.t 2 = .pt [(4, 0)] 0 0 ∧ s.t 3 = .pt [(5, 0)] 0 0 ∧ s.t 5 = .i .i64 j ∧ resUp r rs j ∧ s.H = lk [(1, []), (4, [.po true [.sl false 2 (c.map dT), .sl false 2 (r.map dT), .sl false 2 (e.map dT)]]), (5, [.po true [.sl false 1 (g.map iT), .sl false 1 (f.map iT), .sl false 3 (ts.map tbT), .sl false 4 (rs.map vT)]])]) [] (by simp) ?_ ?_
  · simp [resUp_zero]
  · rintro j s hj ⟨q2, q3, q5, hV, qH⟩
    rw [nf_of qH]
    simp [q2, q3, q5]
    refine ⟨fun hlt => ?_, fun hge => ?_⟩
    · have hw : IntKind.i64.wrap (j + 1) = j + 1 := wrap_id (by omega) (by omega)
      obtain ⟨v, hv⟩ := get_some hlt
      obtain ⟨d, hd⟩ := get_some (show j < r.length by omega)
      have hvf := hf2 v (List.mem_of_getElem? hv)
      have hno : ¬ ofK d.2 v → ¬ WorldOkP c r e (g, f, ts, rs) := fun hk h => hk (h.2.1 j v d hv hd)
      simp [hv, hd, hw, q2, q3, q5]
      by_cases hok : ValOkP v
      rotate_left
      · refine callW_ms [.ro] ?_
        simp [valV]
        refine callX_of ((w61 v hvf).f hok) (by simp) ?_
        simp [hw, q2, q3, q5]
        exact hno fun h => hok h.2
      refine callW_ms [.ro] ?_
      simp [valV]
      refine callX_of ((w61 v hvf).t hok) (by simp) ?_
      simp [hv, hd, hw, q2, q3, q5]
      exact ⟨fun hk => ⟨hlt, (resUp_succ hv hd).2 ⟨hV, ⟨hk, hok⟩⟩⟩, fun hk => hno fun h => hk h.1⟩
    · obtain rfl : j = rs.length := by omega
      have hlen := live_len hent.2.1
      have hmem := live_mem g f g.length
      simp [q2, q3, q5]
      refine ⟨by omega, ?_⟩
      have hE := w62 g f (by omega) (by omega)
      rw [show entListF g f = liveG g f g.length from if_pos hent] at hE
      obtain ⟨L, hL⟩ : ∃ L, L = liveG g f g.length := ⟨_, rfl⟩
      rw [← hL] at hE hlen hmem
      have hgl := hent.2.2
      refine callW_ms [.ro] ?_
      simp
      refine callX_of hE (by simp [entsR]) ?_
      simp [q2, q3, q5]
      refine twp_for L.length (fun j s => s.t 2 = .pt [(4, 0)] 0 0 ∧ s.t 3 = .pt [(5, 0)] 0 0 ∧ s.t 6 = .rf [(74, 0)] 0 g.length ∧ s.t 7 = .rf [(77, 0)] 0 L.length ∧ s.t 8 = .i .i64 j ∧ s.H = lk [(1, []), (4, [.po true [.sl false 2 (c.map dT), .sl false 2 (r.map dT), .sl false 2 (e.map dT)]]), (5, [.po true [.sl false 1 (g.map iT), .sl false 1 (f.map iT), .sl false 3 (ts.map tbT), .sl false 4 (rs.map vT)]]), (74, [.sl true 1 ((freeL g.length (atsR (L.take j))).map bT)]), (77, [.sl true 2 (L.map eT)])]) [] (by simp) ?_ ?_
      · simp [q2, q3, atsR_nil]
      · rintro j s hj ⟨q2, q3, q6, q7, q8, qH⟩
        rw [nf_of qH]
        simp [q2, q3, q6, q7, q8]
        refine ⟨fun hlt => ?_, fun hge => ?_⟩
        · have hw : IntKind.i64.wrap (j + 1) = j + 1 := wrap_id (by omega) (by omega)
          obtain ⟨x, hx⟩ := get_some hlt
          have hsn := take_snoc hx
          have hxm := (hmem x.1).1 (List.mem_map_of_mem (f := (·.1)) (List.mem_of_getElem? hx))
          have hx0 := hxm.1.1
          have hset := freeL_map (n := g.length) (L := atsR (L.take j)) hx0 hxm.1.2
          rw [← atsR_snoc, ← hsn] at hset
          have hgf := freeL_get (n := g.length) (f := atsR (L.take j)) hx0 hxm.1.2
          simp [hx, hx0, hgf, hset, hw, q2, q3, q6, q7, q8]
          exact ⟨hlt, hxm.1.2, hlt⟩
        · obtain rfl : j = L.length := by omega
          rw [List.take_of_length_le (Nat.le_refl _), ← leftL_nil] at qH
          rw [nf_of qH]
          simp [q2, q3, q6, q7, q8]
          refine twp_for ts.length (fun j s => s.t 2 = .pt [(4, 0)] 0 0 ∧ s.t 3 = .pt [(5, 0)] 0 0 ∧ s.t 6 = .rf [(74, 0)] 0 g.length ∧ s.t 7 = .rf [(77, 0)] 0 L.length ∧ s.t 9 = .i .i64 (flatR (ts.take j)).length ∧ s.t 10 = .i .i64 j ∧ tabsUp c (ts.take j) ∧ rowsG g f (flatR (ts.take j)) ∧ s.H = lk [(1, []), (4, [.po true [.sl false 2 (c.map dT), .sl false 2 (r.map dT), .sl false 2 (e.map dT)]]), (5, [.po true [.sl false 1 (g.map iT), .sl false 1 (f.map iT), .sl false 3 (ts.map tbT), .sl false 4 (rs.map vT)]]), (74, [.sl true 1 ((leftL g.length (atsR L) (atsR (flatR (ts.take j)))).map bT)]), (77, [.sl true 2 (L.map eT)])]) [13, 16] (by simp) ?_ ?_
          · simp [q2, q3, q6, q7, flatR_nil, atsR_nil, tabsUp_nil, rowsG_nil, leftL_nil]
          · rintro j s hj ⟨q2, q3, q6, q7, q9, q10, hU, hG, qH⟩
            rw [nf_of qH]
            simp [q2, q3, q6, q7, q9, q10]
            refine ⟨fun hlt => ?_, fun hge => ?_⟩
            · have hw : IntKind.i64.wrap (j + 1) = j + 1 := wrap_id (by omega) (by omega)
              obtain ⟨t, ht⟩ := get_some hlt
              have hm := List.mem_of_getElem? ht
              have htk := h4 t hm
              have hsn := take_snoc ht
              have hno := hnoT (j + 1)
              rw [hsn, tabsUp_snoc] at hno
              simp [ht, hw, q2, q3, q6, q7, q9, q10]
              by_cases htp : stabP c t
              rotate_left
              · refine callW_ms [.ro, .ro] ?_
                simp [regR]
                refine callX_of ((w63 c r e t htk hc (hf1 t hm)).f htp) (by simp) ?_
                simp
                exact fun h => htp (hST h t hm)
              refine callW_ms [.ro, .ro] ?_
              simp [regR]
              refine callX_of ((w63 c r e t htk hc (hf1 t hm)).t htp) (by simp) ?_
              simp [hw, q2, q3, q6, q7, q9, q10]
              refine twp_for j (fun i s2 => s2.t 2 = .pt [(4, 0)] 0 0 ∧ s2.t 3 = .pt [(5, 0)] 0 0 ∧ s2.t 6 = .rf [(74, 0)] 0 g.length ∧ s2.t 7 = .rf [(77, 0)] 0 L.length ∧ s2.t 9 = .i .i64 (flatR (ts.take j)).length ∧ s2.t 10 = .i .i64 j ∧ s2.t 11 = .pt [(13, 0)] 0 0 ∧ s2.t 12 = .i .i64 i ∧ noT t.1 (ts.take i) ∧ s2.H = lk [(1, []), (4, [.po true [.sl false 2 (c.map dT), .sl false 2 (r.map dT), .sl false 2 (e.map dT)]]), (5, [.po true [.sl false 1 (g.map iT), .sl false 1 (f.map iT), .sl false 3 (ts.map tbT), .sl false 4 (rs.map vT)]]), (74, [.sl true 1 ((leftL g.length (atsR L) (atsR (flatR (ts.take j)))).map bT)]), (77, [.sl true 2 (L.map eT)]), (13, [.po true (tbT t)])]) [] (by simp) ?_ ?_
              · simp [q2, q3, q6, q7, q9, q10, noT_nil]
              · rintro i s2 hi ⟨p2, p3, p6, p7, p9, p10, p11, p12, hN, pH⟩
                rw [nf_of pH]
                simp [p2, p3, p6, p7, p9, p10, p11, p12]
                refine ⟨fun hlt2 => ?_, fun hge2 => ?_⟩
                · have hwi : IntKind.i64.wrap (i + 1) = i + 1 := wrap_id (by omega) (by omega)
                  obtain ⟨t2, ht2⟩ := get_some (show i < ts.length by omega)
                  have hm2 := List.mem_of_getElem? ht2
                  have hsn2 := take_snoc ht2
                  simp [ht2, hwi, p2, p3, p6, p7, p9, p10, p11, p12]
                  by_cases hq : t2.1 = t.1
                  · refine callW_ms [.ro, .ro] ?_
                    simp
                    refine callX_of ((w64 t2.1 t.1 (by have := (h4 t2 hm2).1; omega) (by have := htk.1; omega)).t hq) (by simp) ?_
                    simp
                    refine hno fun h => ?_
                    have := h.2.2 t2 (List.mem_iff_getElem?.2 ⟨i, by rw [List.getElem?_take]; simp [hlt2, ht2]⟩)
                    simp [isT, hq] at this
                  · refine callW_ms [.ro, .ro] ?_
                    simp
                    refine callX_of ((w64 t2.1 t.1 (by have := (h4 t2 hm2).1; omega) (by have := htk.1; omega)).f hq) (by simp) ?_
                    simp [hwi, p2, p3, p6, p7, p9, p10, p11, p12]
                    rw [hsn2]
                    exact ⟨hlt2, noT_snoc hN (by simp [isT, hq])⟩
                · obtain rfl : j = i := by omega
                  simp [p2, p3, p6, p7, p9, p10, p11, p12]
                  have hfs := flatR_snoc ht
                  obtain ⟨A, hA⟩ : ∃ A, A = flatR (ts.take j) := ⟨_, rfl⟩
                  rw [← hA] at hfs hG
                  have hpre : ∀ k, ∃ rest, flatR ts = (A ++ t.2.1.take k) ++ rest := fun k => by rw [hA]; exact flatR_pre ht k
                  have htl : t.2.1.length ≤ 2^36 := htk.2.1
                  have wg : IntKind.i64.wrap ((g.length : Int) - 1) = g.length - 1 := wrap_id (by omega) (by omega)
                  have hno3 : ∀ k e2, t.2.1[k]? = some e2 → ¬ rowsG g f ((A ++ t.2.1.take k) ++ [e2]) → ¬ WorldOkP c r e (g, f, ts, rs) := fun k e2 he2 h1 h2 => by
                    obtain ⟨rest, hr⟩ := hpre (k + 1)
                    rw [take_snoc he2, ← List.append_assoc] at hr
                    have h3 := h2.2.2.2.2.1
                    simp only at h3
                    rw [hr] at h3
                    exact h1 (rowsG_pre h3)
                  refine twp_for t.2.1.length (fun m s3 => s3.t 2 = .pt [(4, 0)] 0 0 ∧ s3.t 3 = .pt [(5, 0)] 0 0 ∧ s3.t 6 = .rf [(74, 0)] 0 g.length ∧ s3.t 7 = .rf [(77, 0)] 0 L.length ∧ s3.t 9 = .i .i64 (A ++ t.2.1.take m).length ∧ s3.t 10 = .i .i64 j ∧ s3.t 11 = .pt [(13, 0)] 0 0 ∧ s3.t 13 = .i .i64 m ∧ rowsG g f (A ++ t.2.1.take m) ∧ s3.H = lk [(1, []), (4, [.po true [.sl false 2 (c.map dT), .sl false 2 (r.map dT), .sl false 2 (e.map dT)]]), (5, [.po true [.sl false 1 (g.map iT), .sl false 1 (f.map iT), .sl false 3 (ts.map tbT), .sl false 4 (rs.map vT)]]), (74, [.sl true 1 ((leftL g.length (atsR L) (atsR (A ++ t.2.1.take m))).map bT)]), (77, [.sl true 2 (L.map eT)]), (13, [.po true (tbT t)])]) [16] (by simp) ?_ ?_
                  · simp [p2, p3, p6, p7, p9, p10, p11, ← hA, hG]
                  · rintro m s3 hm3 ⟨u2, u3, u6, u7, u9, u10, u11, u13, hG2, uH⟩
                    obtain ⟨B, hB⟩ : ∃ B, B = A ++ t.2.1.take m := ⟨_, rfl⟩
                    have hlen2 := rowsG_len hG2
                    rw [← hB] at hG2 hlen2 u9 uH
                    rw [nf_of uH]
                    simp [u2, u3, u6, u7, u9, u10, u11, u13]
                    refine ⟨fun hlt3 => ?_, fun hge3 => ?_⟩
                    · have hwm : IntKind.i64.wrap (m + 1) = m + 1 := wrap_id (by omega) (by omega)
                      obtain ⟨x, hx⟩ := get_some hlt3
                      have hsn3 := take_snoc hx
                      have hno2 := hno3 m x hx
                      rw [← hB] at hno2
                      rw [rowsG_snoc] at hno2
                      have hBs : A ++ t.2.1.take (m + 1) = B ++ [x] := by rw [hsn3, hB, List.append_assoc]
                      have wB : IntKind.i64.wrap ((B.length : Int) + 1) = B.length + 1 := wrap_id (by omega) (by omega)
                      simp [hx, u2, u3, u6, u7, u9, u10, u11, u13, wg]
                      by_cases hr : 0 ≤ x.1 ∧ x.1 ≤ (g.length : Int) - 1
                      rotate_left
                      · refine callW_ms [.ro, .ro, .ro] ?_
                        simp
                        refine callX_of ((w52 _ _ _).f hr) (by simp) ?_
                        simp [u2, u3, u6, u7, u9, u10, u11, u13]
                        exact hno2 fun h => hr h.2.1.1
                      have hgB := leftL_get (n := g.length) (L := atsR L) (B := atsR B) (x := x.1) hr.1 (by omega)
                      obtain ⟨y, hy⟩ : ∃ y, g[x.1.toNat]? = some y := get_some (by omega)
                      have hr0 := hr.1
                      by_cases hlf : x.1 ∈ atsR L ∧ x.1 ∉ atsR B
                      rotate_left
                      · rw [decide_eq_false hlf] at hgB
                        refine callW_ms [.ro, .ro, .ro] ?_
                        simp
                        refine callX_of ((w52 _ _ _).t hr) (by simp) ?_
                        simp [hgB, hr0, u2, u3, u6, u7, u9, u10, u11, u13]
                        refine ⟨by omega, hno2 fun h => hlf ⟨(hmem x.1).2 ⟨⟨hr.1, by omega⟩, h.2.1.2.2⟩, h.2.2⟩⟩
                      rw [decide_eq_true hlf] at hgB
                      have hxf := ((hmem x.1).1 hlf.1).2
                      have hset := leftL_map (n := g.length) (L := atsR L) (B := atsR B) (x := x.1) hr.1 (by omega)
                      rw [← atsR_snoc] at hset
                      refine callW_ms [.ro, .ro, .ro] ?_
                      simp
                      refine callX_of ((w52 _ _ _).t hr) (by simp) ?_
                      simp [hgB, hy, hr0, hset, wB, hwm, hBs, u2, u3, u6, u7, u9, u10, u11, u13]
                      have hBl : B.length = A.length + m := by rw [hB]; simp; omega
                      refine ⟨by omega, fun hyv => ⟨by omega, hlt3, by omega, rowsG_snoc.2 ⟨hG2, ⟨hr, by rw [hy, hyv], hxf⟩, hlf.2⟩⟩, fun hyv => hno2 fun h => hyv ?_⟩
                      have := h.2.1.2.1
                      rw [hy] at this
                      exact Option.some.inj this
                    · obtain rfl : m = t.2.1.length := by omega
                      rw [List.take_of_length_le (Nat.le_refl _)] at hB
                      rw [hfs, ← hB, hsn]
                      exact ⟨hlt, rfl, hw, tabsUp_snoc.2 ⟨hU, htp.2, hN⟩, hG2, rfl⟩
            · obtain rfl : j = ts.length := by omega
              rw [List.take_of_length_le (Nat.le_refl _)] at hG hU ⊢
              constructor
              · intro h
                exact ⟨⟨hreg, hent, hl1, hl3⟩, resUp_all.1 hV, hU.1, hU.2, hG, by simp only; omega⟩
              · intro h
                have := h.2.2.2.2.2
                simp only at this
                omega
def fW (w : WorldP) : Prop := (∀ t ∈ w.2.2.1, ∀ vs ∈ t.2.2, valsF vs) ∧ valsF w.2.2.2
end Go.Proofs.YtehmdblkkpdmoaaGreatT


namespace Go.Proofs.YtehmdblkkpdmoaaGreatT
set_option linter.unusedVariables false
set_option linter.unusedSimpArgs false
open Go
def c98 : TCode := (.seq (.ops [⟨(some 4), 6, .mv (.c (.i .i64 0)), none, []⟩])
  (.seq (.seq (.ops [⟨(some 5), 7, .mv (.c (.i .i64 0)), none, []⟩])
  (.block 0 (.loop (.seq (.seq (.ops [⟨(some 6), 8, .mv (.t 5), none, []⟩, ⟨(some 7), 9, .mv (.t 0), none, []⟩, ⟨(some 8), 10, .len false (.t 7), none, []⟩, ⟨(some 9), 11, .bin .lss (.t 6) (.t 8), none, []⟩])
  (.cond (.t 9)
  .skip
  (.exit 0)))
  (.seq (.block 1 (.seq (.ops [⟨(some 12), 14, .mv (.t 0), none, []⟩, ⟨(some 13), 15, .mv (.t 5), none, []⟩, ⟨(some 14), 16, .iaddr 1 (.t 12) (.t 13), none, []⟩, ⟨(some 15), 17, .load false 1 (.t 14), none, []⟩, ⟨(some 16), 18, .mv (.t 1), none, []⟩, ⟨(some 17), 19, .bin .eql (.t 15) (.t 16), none, []⟩])
  (.cond (.t 17)
  (.seq (.ops [⟨(some 18), 20, .mv (.t 5), none, []⟩, ⟨(some 4), 6, .mv (.t 18), none, []⟩])
  .ret)
  .skip)))
  (.ops [⟨(some 10), 12, .mv (.t 5), none, []⟩, ⟨(some 11), 13, .bin .add (.t 10) (.c (.i .i64 1)), none, []⟩, ⟨(some 5), 7, .mv (.t 11), none, []⟩]))))))
  (.seq (.ops [⟨(some 4), 6, .mv (.c (.i .i64 (-1))), none, []⟩])
  .ret)))
theorem k98 : compCode Tryz.prog Tryz.f98.ntmps Tryz.f98.body.get! = some c98 := by kernel_rfl
theorem r98 : resTmps Tryz.prog Tryz.f98.results.toList = some [.tmp 4] := by kernel_rfl
theorem w98 (l : List Int) (x : Int) (hl : l.length ≤ 2^40) : Contract Tryz.prog false 98 [.ro, .ro] [.sl false 1 (l.map iT), .i .i64 x] [.i .i64 (idxF l x)] [] := by
  refine mk_contract [] Tryz.func98 (c := Tryz.f98.body.get!) (by kernel_rfl) k98 r98 (of_decide_eq_true rfl) fun _ => ?_
  unfold c98; simp
  refine twp_for l.length (fun j s => s.t 0 = .sl false 1 (l.map iT) ∧ s.t 1 = .i .i64 x ∧ s.t 5 = .i .i64 j ∧ x ∉ l.take j ∧ s.H = lk [(1, [])]) [] (by simp) ?_ ?_
  · simp
  · rintro j s hj ⟨q0, q1, q5, hn, qH⟩
    rw [nf_of qH]
    simp [q0, q1, q5]
    refine ⟨fun hlt => ?_, fun hge => ?_⟩
    · have hw : IntKind.i64.wrap (j + 1) = j + 1 := wrap_id (by omega) (by omega)
      obtain ⟨y, hy⟩ := get_some hlt
      simp [hy, hw, q0, q1, q5]
      refine ⟨fun hxy => ?_, fun hxy => ⟨hlt, ?_⟩⟩
      · subst hxy; exact (idxF_at hy hn).symm
      · rw [take_snoc hy]; simp; exact ⟨hn, fun h => hxy h.symm⟩
    · obtain rfl : j = l.length := by omega
      rw [List.take_of_length_le (Nat.le_refl _)] at hn
      simp [idxF, hn]
theorem W83w (g f : List Int) (ts : List TableP) (rs : List ValP) (x y : Int) (hg : g.length ≤ 2^40) (hf : f.length ≤ 2^40) : Contract Tryz.prog false 83 [.ro, .ro] [.po false [.sl false 1 (g.map iT), .sl false 1 (f.map iT), .sl false 3 (ts.map tbT), .sl false 4 (rs.map vT)], entT x y] [.b (decide (liveP g f x y))] [] := by
  refine mk_contract [] Tryz.func83 (c := Tryz.f83.body.get!) (by kernel_rfl) k83 r83 (of_decide_eq_true rfl) fun _ => ?_
  have hw2 : IntKind.i64.wrap (g.length - 1) = g.length - 1 := wrap_id (by omega) (by omega)
  unfold c83 entT; simp [hw2]
  refine callW_ms [.ro, .ro, .ro] ?_
  simp
  by_cases hr : 0 ≤ x ∧ x ≤ (g.length : Int) - 1
  · refine callX_of ((w54 _ _ _).t hr) (by simp) ?_
    obtain ⟨z, hz⟩ := get_some (l := g) (j := x.toNat) (by omega)
    simp [hr.1, hz]
    by_cases hzy : z = y
    · subst hzy
      simp
      refine callW_ms [.ro, .ro] ?_
      simp
      refine callX_of (w121 f x hf) (by simp) ?_
      simp [liveP, hr, hz]
    · have : ¬ liveP g f x y := fun h => by have := h.2.1; rw [hz] at this; cases this; exact hzy rfl
      simp [hzy, this]
  · refine callX_of ((w54 _ _ _).f hr) (by simp) ?_
    have : ¬ liveP g f x y := fun h => hr h.1
    simp [this]
theorem nodup_le {α : Type} [BEq α] [LawfulBEq α] : ∀ {l m : List α}, l.Nodup → (∀ x ∈ l, x ∈ m) → l.length ≤ m.length
  | [], m, _, _ => by simp
  | a :: l, m, hd, hs => by
    rw [List.nodup_cons] at hd
    have ha := hs a (by simp)
    have h1 := nodup_le (l := l) (m := m.erase a) hd.2 fun x hx => (List.mem_erase_of_ne (by rintro rfl; exact hd.1 hx)).2 (hs x (by simp [hx]))
    rw [List.length_erase_of_mem ha] at h1
    have : 0 < m.length := List.length_pos_of_mem ha
    simp only [List.length_cons]; omega
theorem live_row {g f : List Int} {rs : List (Int × Int)} {e : Int × Int} (hE : EntsOkP g f) (h : rowsP g f rs) (he : liveP g f e.1 e.2) : e ∈ rs := by
  have hlen := live_len hE.2.1
  have hmem := live_mem g f g.length
  obtain ⟨⟨h1, h2⟩, h3⟩ := h
  have hin : e.1 ∈ atsR rs := by
    refine Decidable.byContradiction fun hn => ?_
    have hsub : ∀ x ∈ e.1 :: atsR rs, x ∈ atsR (liveG g f g.length) := by
      intro x hx
      rcases List.mem_cons.1 hx with rfl | hx
      · exact (hmem _).2 ⟨⟨he.1.1, by have := he.1.2; omega⟩, he.2.2⟩
      · obtain ⟨y, hy, rfl⟩ := List.mem_map.1 hx
        have hl := h1 y hy
        exact (hmem _).2 ⟨⟨hl.1.1, by have := hl.1.2; omega⟩, hl.2.2⟩
    have := nodup_le (List.nodup_cons.2 ⟨hn, h2⟩) hsub
    simp [atsR] at this
    omega
  obtain ⟨y, hy, hye⟩ := List.mem_map.1 hin
  have hl := (h1 y hy).2.1
  rw [hye, he.2.1] at hl
  have : y = e := Prod.ext hye (Option.some.inj hl).symm
  rw [← this]; exact hy
theorem where_row {e : Int × Int} : ∀ {ts : List TableP} (i : Nat), e ∈ flatR ts → ∃ (j k : Nat) (t : TableP), ts[j]? = some t ∧ t.2.1[k]? = some e ∧ whereG e ts i = (((i + j : Nat) : Int), (k : Int))
  | [], i, h => by cases h
  | t :: ts, i, h => by
    by_cases hp : 0 ≤ idxP (isE e) t.2.1
    · obtain ⟨k, hk⟩ : ∃ k : Nat, idxP (isE e) t.2.1 = k := ⟨(idxP (isE e) t.2.1).toNat, by omega⟩
      refine ⟨0, k, t, rfl, ?_, ?_⟩
      · unfold idxP at hk
        split at hk
        · rename_i m hm
          have : m = k := by omega
          subst this
          rw [List.findIdx?_eq_some_iff_getElem] at hm
          obtain ⟨hlt, hq, -⟩ := hm
          rw [List.getElem?_eq_getElem hlt]
          simp [isE] at hq
          rw [hq]
        · omega
      · simp only [whereG, if_pos hp, Nat.add_zero]
        rw [hk]
    · have h2 : e ∈ flatR ts := by
        have h3 : e ∈ t.2.1 ∨ e ∈ flatR ts := by simpa [flatR] using h
        rcases h3 with h3 | h3
        · exact absurd (idxP_ge.2 ⟨e, h3, by simp [isE]⟩) hp
        · exact h3
      obtain ⟨j, k, t2, h4, h5, h6⟩ := where_row (i + 1) h2
      refine ⟨j + 1, k, t2, by simpa using h4, h5, ?_⟩
      simp only [whereG, if_neg hp, h6]
      congr 2; omega
theorem tab_vals {c : DeclsP} {t : TableP} (h : tabP c t) : ∀ vs ∈ t.2.2, vs.length = t.2.1.length := by
  intro vs hvs
  obtain ⟨i, hi⟩ := List.mem_iff_getElem?.1 hvs
  obtain ⟨x, hx⟩ : ∃ x, t.1[i]? = some x := get_some (by rw [← h.2.1]; exact (List.getElem?_eq_some_iff.1 hi).1)
  exact (h.2.2 i x vs hx hi).1
theorem idx_lt {l : List Int} {x : Int} (h : 0 ≤ idxF l x) : (idxF l x).toNat < l.length := by
  have hm := (idxF_ge _ _).1 h
  have := List.idxOf_lt_length_of_mem hm
  unfold idxF
  rw [if_pos hm]
  omega
end Go.Proofs.YtehmdblkkpdmoaaGreatT


namespace Go.Proofs.YtehmdblkkpdmoaaGreatT
set_option linter.unusedVariables false
set_option linter.unusedSimpArgs false
open Go
def c94 : TCode := (.seq (.ops [⟨(some 4), 6, .mv (.c (.i .i64 0)), none, []⟩])
  (.seq (.seq (.ops [⟨(some 5), 7, .mv (.c (.i .i64 0)), none, []⟩])
  (.block 0 (.loop (.seq (.seq (.ops [⟨(some 6), 8, .mv (.t 5), none, []⟩, ⟨(some 7), 9, .mv (.t 0), none, []⟩, ⟨(some 8), 10, .len false (.t 7), none, []⟩, ⟨(some 9), 11, .bin .lss (.t 6) (.t 8), none, []⟩])
  (.cond (.t 9)
  .skip
  (.exit 0)))
  (.seq (.block 1 (.ops [⟨(some 12), 14, .mv (.t 0), none, []⟩, ⟨(some 13), 15, .mv (.t 5), none, []⟩, ⟨(some 14), 16, .iaddr 1 (.t 12) (.t 13), none, []⟩, ⟨(some 15), 17, .load false 1 (.t 14), none, []⟩, ⟨(some 16), 18, .mv (.t 1), none, []⟩, ⟨(some 17), 19, .call 44 [((.t 15), 0), ((.t 16), 0)], none, []⟩, ⟨(some 1), 3, .mv (.t 17), none, []⟩]))
  (.ops [⟨(some 10), 12, .mv (.t 5), none, []⟩, ⟨(some 11), 13, .bin .add (.t 10) (.c (.i .i64 1)), none, []⟩, ⟨(some 5), 7, .mv (.t 11), none, []⟩]))))))
  (.seq (.ops [⟨(some 18), 20, .mv (.t 1), none, []⟩, ⟨(some 4), 6, .mv (.t 18), none, []⟩])
  .ret)))
theorem k94 : compCode Tryz.prog Tryz.f94.ntmps Tryz.f94.body.get! = some c94 := by kernel_rfl
theorem r94 : resTmps Tryz.prog Tryz.f94.results.toList = some [.tmp 4] := by kernel_rfl
def c97 : TCode := (.seq (.ops [⟨(some 4), 6, .mv (.c (.i .i64 0)), none, []⟩])
  (.seq (.seq (.ops [⟨(some 5), 7, .mv (.c (.i .i64 0)), none, []⟩])
  (.block 0 (.loop (.seq (.seq (.ops [⟨(some 6), 8, .mv (.t 5), none, []⟩, ⟨(some 7), 9, .mv (.t 0), none, []⟩, ⟨(some 8), 10, .len false (.t 7), none, []⟩, ⟨(some 9), 11, .bin .lss (.t 6) (.t 8), none, []⟩])
  (.cond (.t 9)
  .skip
  (.exit 0)))
  (.seq (.block 1 (.seq (.ops [⟨(some 12), 14, .mv (.t 0), none, []⟩, ⟨(some 13), 15, .mv (.t 5), none, []⟩, ⟨(some 14), 16, .iaddr 1 (.t 12) (.t 13), none, []⟩, ⟨(some 15), 17, .load false 1 (.t 14), none, []⟩, ⟨(some 16), 18, .mv (.t 1), none, []⟩, ⟨(some 17), 19, .call 47 [((.t 15), 0), ((.t 16), 0)], none, []⟩, ⟨(some 1), 3, .mv (.t 17), none, []⟩])
  (.seq (.ops [⟨(some 18), 20, .mv (.t 1), none, []⟩, ⟨(some 19), 21, .bin .lss (.t 18) (.c (.i .i64 0)), none, []⟩])
  (.cond (.t 19)
  (.seq (.ops [⟨(some 4), 6, .mv (.c (.i .i64 (-1))), none, []⟩])
  .ret)
  .skip))))
  (.ops [⟨(some 10), 12, .mv (.t 5), none, []⟩, ⟨(some 11), 13, .bin .add (.t 10) (.c (.i .i64 1)), none, []⟩, ⟨(some 5), 7, .mv (.t 11), none, []⟩]))))))
  (.seq (.ops [⟨(some 20), 22, .mv (.t 1), none, []⟩, ⟨(some 4), 6, .mv (.t 20), none, []⟩])
  .ret)))
theorem k97 : compCode Tryz.prog Tryz.f97.ntmps Tryz.f97.body.get! = some c97 := by kernel_rfl
theorem r97 : resTmps Tryz.prog Tryz.f97.results.toList = some [.tmp 4] := by kernel_rfl
def c43 : TCode := (.seq (.ops [⟨(some 4), 6, .mv (.c (.i .i64 0)), none, []⟩])
  (.seq (.seq (.ops [⟨(some 5), 7, .mv (.c (.i .i64 0)), none, []⟩])
  (.block 0 (.loop (.seq (.seq (.ops [⟨(some 6), 8, .mv (.t 5), none, []⟩, ⟨(some 7), 9, .mv (.t 0), none, []⟩, ⟨(some 8), 10, .len false (.t 7), none, []⟩, ⟨(some 9), 11, .bin .lss (.t 6) (.t 8), none, []⟩])
  (.cond (.t 9)
  .skip
  (.exit 0)))
  (.seq (.block 1 (.seq (.ops [⟨(some 12), 14, .mv (.t 0), none, []⟩, ⟨(some 13), 15, .mv (.t 5), none, []⟩, ⟨(some 14), 16, .iaddr 3 (.t 12) (.t 13), none, []⟩, ⟨(some 15), 17, .faddr 0 1 (.t 14), none, []⟩, ⟨(some 16), 18, .load false 1 (.t 15), none, []⟩, ⟨(some 17), 19, .mv (.t 1), none, []⟩, ⟨(some 18), 20, .call 92 [((.t 16), 0), ((.t 17), 0)], none, []⟩, ⟨(some 1), 3, .mv (.t 18), none, []⟩])
  (.seq (.ops [⟨(some 19), 21, .mv (.t 0), none, []⟩, ⟨(some 20), 22, .mv (.t 5), none, []⟩, ⟨(some 21), 23, .iaddr 3 (.t 19) (.t 20), none, []⟩, ⟨(some 22), 24, .faddr 1 1 (.t 21), none, []⟩, ⟨(some 23), 25, .load false 1 (.t 22), none, []⟩, ⟨(some 24), 26, .mv (.t 1), none, []⟩, ⟨(some 25), 27, .call 93 [((.t 23), 0), ((.t 24), 0)], none, []⟩, ⟨(some 1), 3, .mv (.t 25), none, []⟩])
  (.ops [⟨(some 26), 28, .mv (.t 0), none, []⟩, ⟨(some 27), 29, .mv (.t 5), none, []⟩, ⟨(some 28), 30, .iaddr 3 (.t 26) (.t 27), none, []⟩, ⟨(some 29), 31, .faddr 2 1 (.t 28), none, []⟩, ⟨(some 30), 32, .load false 1 (.t 29), none, []⟩, ⟨(some 31), 33, .mv (.t 1), none, []⟩, ⟨(some 32), 34, .call 94 [((.t 30), 0), ((.t 31), 0)], none, []⟩, ⟨(some 1), 3, .mv (.t 32), none, []⟩]))))
  (.ops [⟨(some 10), 12, .mv (.t 5), none, []⟩, ⟨(some 11), 13, .bin .add (.t 10) (.c (.i .i64 1)), none, []⟩, ⟨(some 5), 7, .mv (.t 11), none, []⟩]))))))
  (.seq (.ops [⟨(some 33), 35, .mv (.t 1), none, []⟩, ⟨(some 4), 6, .mv (.t 33), none, []⟩])
  .ret)))
theorem k43 : compCode Tryz.prog Tryz.f43.ntmps Tryz.f43.body.get! = some c43 := by kernel_rfl
theorem r43 : resTmps Tryz.prog Tryz.f43.results.toList = some [.tmp 4] := by kernel_rfl
def c46 : TCode := (.seq (.ops [⟨(some 4), 6, .mv (.c (.i .i64 0)), none, []⟩])
  (.seq (.seq (.ops [⟨(some 5), 7, .mv (.c (.i .i64 0)), none, []⟩])
  (.block 0 (.loop (.seq (.seq (.ops [⟨(some 6), 8, .mv (.t 5), none, []⟩, ⟨(some 7), 9, .mv (.t 0), none, []⟩, ⟨(some 8), 10, .len false (.t 7), none, []⟩, ⟨(some 9), 11, .bin .lss (.t 6) (.t 8), none, []⟩])
  (.cond (.t 9)
  .skip
  (.exit 0)))
  (.seq (.block 1 (.seq (.ops [⟨(some 12), 14, .mv (.t 0), none, []⟩, ⟨(some 13), 15, .mv (.t 5), none, []⟩, ⟨(some 14), 16, .iaddr 3 (.t 12) (.t 13), none, []⟩, ⟨(some 15), 17, .faddr 0 1 (.t 14), none, []⟩, ⟨(some 16), 18, .load false 1 (.t 15), none, []⟩, ⟨(some 17), 19, .mv (.t 1), none, []⟩, ⟨(some 18), 20, .call 95 [((.t 16), 0), ((.t 17), 0)], none, []⟩, ⟨(some 1), 3, .mv (.t 18), none, []⟩])
  (.seq (.seq (.ops [⟨(some 19), 21, .mv (.t 1), none, []⟩, ⟨(some 20), 22, .bin .lss (.t 19) (.c (.i .i64 0)), none, []⟩])
  (.cond (.t 20)
  (.seq (.ops [⟨(some 4), 6, .mv (.c (.i .i64 (-1))), none, []⟩])
  .ret)
  .skip))
  (.seq (.ops [⟨(some 21), 23, .mv (.t 0), none, []⟩, ⟨(some 22), 24, .mv (.t 5), none, []⟩, ⟨(some 23), 25, .iaddr 3 (.t 21) (.t 22), none, []⟩, ⟨(some 24), 26, .faddr 1 1 (.t 23), none, []⟩, ⟨(some 25), 27, .load false 1 (.t 24), none, []⟩, ⟨(some 26), 28, .mv (.t 1), none, []⟩, ⟨(some 27), 29, .call 96 [((.t 25), 0), ((.t 26), 0)], none, []⟩, ⟨(some 1), 3, .mv (.t 27), none, []⟩])
  (.seq (.seq (.ops [⟨(some 28), 30, .mv (.t 1), none, []⟩, ⟨(some 29), 31, .bin .lss (.t 28) (.c (.i .i64 0)), none, []⟩])
  (.cond (.t 29)
  (.seq (.ops [⟨(some 4), 6, .mv (.c (.i .i64 (-1))), none, []⟩])
  .ret)
  .skip))
  (.seq (.ops [⟨(some 30), 32, .mv (.t 0), none, []⟩, ⟨(some 31), 33, .mv (.t 5), none, []⟩, ⟨(some 32), 34, .iaddr 3 (.t 30) (.t 31), none, []⟩, ⟨(some 33), 35, .faddr 2 1 (.t 32), none, []⟩, ⟨(some 34), 36, .load false 1 (.t 33), none, []⟩, ⟨(some 35), 37, .mv (.t 1), none, []⟩, ⟨(some 36), 38, .call 97 [((.t 34), 0), ((.t 35), 0)], none, []⟩, ⟨(some 1), 3, .mv (.t 36), none, []⟩])
  (.seq (.ops [⟨(some 37), 39, .mv (.t 1), none, []⟩, ⟨(some 38), 40, .bin .lss (.t 37) (.c (.i .i64 0)), none, []⟩])
  (.cond (.t 38)
  (.seq (.ops [⟨(some 4), 6, .mv (.c (.i .i64 (-1))), none, []⟩])
  .ret)
  .skip))))))))
  (.ops [⟨(some 10), 12, .mv (.t 5), none, []⟩, ⟨(some 11), 13, .bin .add (.t 10) (.c (.i .i64 1)), none, []⟩, ⟨(some 5), 7, .mv (.t 11), none, []⟩]))))))
  (.seq (.ops [⟨(some 39), 41, .mv (.t 1), none, []⟩, ⟨(some 4), 6, .mv (.t 39), none, []⟩])
  .ret)))
theorem k46 : compCode Tryz.prog Tryz.f46.ntmps Tryz.f46.body.get! = some c46 := by kernel_rfl
theorem r46 : resTmps Tryz.prog Tryz.f46.results.toList = some [.tmp 4] := by kernel_rfl
def c16 : TCode := (.seq (.ops [⟨(some 2), 4, .box 4 (.t 0), none, []⟩, ⟨(some 4), 6, .mv (.c (.i .i64 0)), none, []⟩])
  (.seq (.ops [⟨(some 5), 7, .faddr 0 2 (.t 2), none, []⟩, ⟨(some 6), 8, .load true 2 (.t 5), none, []⟩, ⟨(some 7), 9, .mv (.t 1), none, []⟩, ⟨(some 8), 10, .call 42 [((.t 6), 0), ((.t 7), 0)], none, []⟩, ⟨(some 1), 3, .mv (.t 8), none, []⟩])
  (.seq (.ops [⟨(some 9), 11, .faddr 2 1 (.t 2), none, []⟩, ⟨(some 10), 12, .load false 1 (.t 9), none, []⟩, ⟨(some 11), 13, .mv (.t 1), none, []⟩, ⟨(some 12), 14, .call 43 [((.t 10), 0), ((.t 11), 0)], none, []⟩, ⟨(some 1), 3, .mv (.t 12), none, []⟩])
  (.seq (.ops [⟨(some 13), 15, .faddr 3 1 (.t 2), none, []⟩, ⟨(some 14), 16, .load false 1 (.t 13), none, []⟩, ⟨(some 15), 17, .mv (.t 1), none, []⟩, ⟨(some 16), 18, .call 44 [((.t 14), 0), ((.t 15), 0)], none, []⟩, ⟨(some 1), 3, .mv (.t 16), none, []⟩])
  (.seq (.ops [⟨(some 17), 19, .mv (.t 1), none, []⟩, ⟨(some 4), 6, .mv (.t 17), none, []⟩])
  .ret)))))
theorem k16 : compCode Tryz.prog Tryz.f16.ntmps Tryz.f16.body.get! = some c16 := by kernel_rfl
theorem r16 : resTmps Tryz.prog Tryz.f16.results.toList = some [.tmp 4] := by kernel_rfl
def c17 : TCode := (.seq (.ops [⟨(some 2), 4, .box 4 (.t 0), none, []⟩, ⟨(some 4), 6, .mv (.c (.i .i64 0)), none, []⟩])
  (.seq (.ops [⟨(some 5), 7, .faddr 0 2 (.t 2), none, []⟩, ⟨(some 6), 8, .load true 2 (.t 5), none, []⟩, ⟨(some 7), 9, .mv (.t 1), none, []⟩, ⟨(some 8), 10, .call 45 [((.t 6), 0), ((.t 7), 0)], none, []⟩, ⟨(some 1), 3, .mv (.t 8), none, []⟩])
  (.seq (.seq (.ops [⟨(some 9), 11, .mv (.t 1), none, []⟩, ⟨(some 10), 12, .bin .lss (.t 9) (.c (.i .i64 0)), none, []⟩])
  (.cond (.t 10)
  (.seq (.ops [⟨(some 4), 6, .mv (.c (.i .i64 (-1))), none, []⟩])
  .ret)
  .skip))
  (.seq (.ops [⟨(some 11), 13, .faddr 2 1 (.t 2), none, []⟩, ⟨(some 12), 14, .load false 1 (.t 11), none, []⟩, ⟨(some 13), 15, .mv (.t 1), none, []⟩, ⟨(some 14), 16, .call 46 [((.t 12), 0), ((.t 13), 0)], none, []⟩, ⟨(some 1), 3, .mv (.t 14), none, []⟩])
  (.seq (.seq (.ops [⟨(some 15), 17, .mv (.t 1), none, []⟩, ⟨(some 16), 18, .bin .lss (.t 15) (.c (.i .i64 0)), none, []⟩])
  (.cond (.t 16)
  (.seq (.ops [⟨(some 4), 6, .mv (.c (.i .i64 (-1))), none, []⟩])
  .ret)
  .skip))
  (.seq (.ops [⟨(some 17), 19, .faddr 3 1 (.t 2), none, []⟩, ⟨(some 18), 20, .load false 1 (.t 17), none, []⟩, ⟨(some 19), 21, .mv (.t 1), none, []⟩, ⟨(some 20), 22, .call 47 [((.t 18), 0), ((.t 19), 0)], none, []⟩, ⟨(some 1), 3, .mv (.t 20), none, []⟩])
  (.seq (.seq (.ops [⟨(some 21), 23, .mv (.t 1), none, []⟩, ⟨(some 22), 24, .bin .lss (.t 21) (.c (.i .i64 0)), none, []⟩])
  (.cond (.t 22)
  (.seq (.ops [⟨(some 4), 6, .mv (.c (.i .i64 (-1))), none, []⟩])
  .ret)
  .skip))
  (.seq (.ops [⟨(some 23), 25, .mv (.t 1), none, []⟩, ⟨(some 4), 6, .mv (.t 23), none, []⟩])
  .ret))))))))
theorem k17 : compCode Tryz.prog Tryz.f17.ntmps Tryz.f17.body.get! = some c17 := by kernel_rfl
theorem r17 : resTmps Tryz.prog Tryz.f17.results.toList = some [.tmp 4] := by kernel_rfl
def mkR {α β : Type} (f : Int → α → β) (n : α → Nat) : Int → List α → List β
  | _, [] => []
  | k, x :: l => f k x :: mkR f n (k + n x) l
section
variable {α β : Type} {f : Int → α → β} {n : α → Nat}
@[simp] theorem mkR_len : ∀ (k : Int) (l : List α), (mkR f n k l).length = l.length
  | _, [] => rfl
  | k, x :: l => by simp [mkR, mkR_len _ l]
theorem mkR_snoc (x : α) : ∀ (k : Int) (l : List α), mkR f n k (l ++ [x]) = mkR f n k l ++ [f (k + sumN n l) x]
  | k, [] => by simp [mkR, sumN]
  | k, y :: l => by simp [mkR, mkR_snoc x _ l, sumN, Int.add_assoc]
theorem mkR_get {x : α} : ∀ {j : Nat} (k : Int) {l : List α}, l[j]? = some x → (mkR f n k l)[j]? = some (f (k + sumN n (l.take j)) x)
  | 0, k, y :: l, h => by simp at h; subst h; simp [mkR, sumN]
  | j + 1, k, y :: l, h => by
    simp at h
    simp only [mkR, List.getElem?_cons_succ, List.take_succ_cons, sumN]
    rw [mkR_get (k + n y) h]
    congr 2; omega
  | 0, k, [], h => by simp at h
  | j + 1, k, [], h => by simp at h
theorem mkR_take {x : α} {j : Nat} {l : List α} (k : Int) (h : l[j]? = some x) : mkR f n k (l.take (j + 1)) = mkR f n k (l.take j) ++ [f (k + sumN n (l.take j)) x] := by
  rw [take_snoc h, mkR_snoc]
theorem sumN_at {x : α} {j : Nat} {l : List α} (h : l[j]? = some x) : sumN n (l.take (j + 1)) = sumN n (l.take j) + n x := by
  rw [take_snoc h, sumN_snoc]
end
def nV (v : List ValP) : Nat := 4 * v.length
def mkVs (k : Int) (v : List ValP) : List ValP := mkL 4 mkV k v.length
theorem w94 (l : List (List ValP)) (k : Int) (hl : l.length ≤ 2^36) (hd : ∀ v ∈ l, v.length ≤ 2^36) (hk : 0 ≤ k) (hk2 : k + sumN nV l ≤ 2^40) : Contract Tryz.prog false 94 [.own, .ro] [.sl true 1 (l.map cvO), .i .i64 k] [.i .i64 (k + sumN nV l)] [some (.sl true 1 ((mkR mkVs nV k l).map cvO))] := by
  refine mk_contract [some [(1, 0)]] Tryz.func94 (c := Tryz.f94.body.get!) (by kernel_rfl) k94 r94 (of_decide_eq_true rfl) fun _ => ?_
  unfold c94; simp
  refine twp_for l.length (fun j s => s.t 0 = .rf [(1, 0)] 0 l.length ∧ s.t 1 = .i .i64 (k + sumN nV (l.take j)) ∧ s.t 5 = .i .i64 j ∧ s.H = lk [(1, [.sl true 1 ((mkR mkVs nV k (l.take j)).map cvO ++ (l.map cvO).drop j)])]) [] (by simp) ?_ ?_
  · simp [mkR, sumN]
  · rintro j s hj ⟨q0, q1, q5, qH⟩
    rw [nf_of qH]
    simp [q0, q1, q5]
    refine ⟨fun hlt => ?_, fun hge => ?_⟩
    · have hw : IntKind.i64.wrap (j + 1) = j + 1 := wrap_id (by omega) (by omega)
      obtain ⟨x, hx⟩ := get_some hlt
      have hmin : min j l.length = j := by omega
      have hs : sumN nV (l.take (j + 1)) = sumN nV (l.take j) + 4 * x.length := sumN_at hx
      have hle := sumN_take nV l (j + 1)
      have hxl := hd x (List.mem_of_getElem? hx)
      simp [hw, q0, q1, q5, drop_at hx, hmin]
      refine ⟨hlt, ?_⟩
      refine callW_ms [.own, .ro] ?_
      simp [hmin]
      refine callX_of (w44 x (k + sumN nV (l.take j)) hxl (by omega) (by omega)) (by simp) ?_
      simp [hw, q0, q1, q5, hmin, mkR_take k hx, hs, mkVs]
      omega
    · obtain rfl : j = l.length := by omega
      simp [q0, q1, q5]
theorem w97 (l : List (List ValP)) (k : Int) (hl : l.length ≤ 2^36) (hd : ∀ v ∈ l, v.length ≤ 2^36) (hk : 0 ≤ k) (hk2 : k + sumN nV l ≤ 2^40) : Contract Tryz.prog false 97 [.ro, .ro] [.sl false 1 ((mkR mkVs nV k l).map cvT), .i .i64 k] [.i .i64 (k + sumN nV l)] [] := by
  refine mk_contract [] Tryz.func97 (c := Tryz.f97.body.get!) (by kernel_rfl) k97 r97 (of_decide_eq_true rfl) fun _ => ?_
  unfold c97; simp
  refine twp_for l.length (fun j s => s.t 0 = .sl false 1 ((mkR mkVs nV k l).map cvT) ∧ s.t 1 = .i .i64 (k + sumN nV (l.take j)) ∧ s.t 5 = .i .i64 j ∧ s.H = lk [(1, [])]) [] (by simp) ?_ ?_
  · simp [sumN]
  · rintro j s hj ⟨q0, q1, q5, qH⟩
    rw [nf_of qH]
    simp [q0, q1, q5]
    refine ⟨fun hlt => ?_, fun hge => ?_⟩
    · have hw : IntKind.i64.wrap (j + 1) = j + 1 := wrap_id (by omega) (by omega)
      obtain ⟨x, hx⟩ := get_some hlt
      have hs : sumN nV (l.take (j + 1)) = sumN nV (l.take j) + 4 * x.length := sumN_at hx
      have hle := sumN_take nV l (j + 1)
      have hxl := hd x (List.mem_of_getElem? hx)
      simp [hw, q0, q1, q5, mkR_get k hx, mkVs]
      refine callW_ms [.ro, .ro] ?_
      simp
      refine callX_of (w47 x.length (k + sumN nV (l.take j)) hxl (by omega) (by omega)) (by simp) ?_
      simp [hw, q0, q1, q5, hs]
      omega
    · obtain rfl : j = l.length := by omega
      simp [q0, q1, q5]
def nTb (t : TableP) : Nat := t.1.length + 2 * t.2.1.length + sumN nV t.2.2
def mkTb (k : Int) (t : TableP) : TableP := (cnt k t.1.length, mkL 2 (fun k => (k, k + 1)) (k + t.1.length) t.2.1.length, mkR mkVs nV (k + t.1.length + 2 * t.2.1.length) t.2.2)
theorem w43 (l : List TableP) (k : Int) (hl : l.length ≤ 2^36) (hd : ∀ t ∈ l, okT t) (hk : 0 ≤ k) (hk2 : k + sumN nTb l ≤ 2^40) : Contract Tryz.prog false 43 [.own, .ro] [.sl true 3 (l.map tbO), .i .i64 k] [.i .i64 (k + sumN nTb l)] [some (.sl true 3 ((mkR mkTb nTb k l).map tbO))] := by
  refine mk_contract [some [(1, 0)]] Tryz.func43 (c := Tryz.f43.body.get!) (by kernel_rfl) k43 r43 (of_decide_eq_true rfl) fun _ => ?_
  unfold c43; simp
  refine twp_for l.length (fun j s => s.t 0 = .rf [(1, 0)] 0 l.length ∧ s.t 1 = .i .i64 (k + sumN nTb (l.take j)) ∧ s.t 5 = .i .i64 j ∧ s.H = lk [(1, [.sl true 3 ((mkR mkTb nTb k (l.take j)).map tbO ++ (l.map tbO).drop j)])]) [] (by simp) ?_ ?_
  · simp [mkR, sumN]
  · rintro j s hj ⟨q0, q1, q5, qH⟩
    rw [nf_of qH]
    simp [q0, q1, q5]
    refine ⟨fun hlt => ?_, fun hge => ?_⟩
    · have hw : IntKind.i64.wrap (j + 1) = j + 1 := wrap_id (by omega) (by omega)
      obtain ⟨x, hx⟩ := get_some hlt
      have hmin : min j l.length = j := by omega
      have hs : sumN nTb (l.take (j + 1)) = sumN nTb (l.take j) + (x.1.length + 2 * x.2.1.length + sumN nV x.2.2) := sumN_at hx
      have hle := sumN_take nTb l (j + 1)
      obtain ⟨h1, h2, h3, h4⟩ := hd x (List.mem_of_getElem? hx)
      simp [hw, q0, q1, q5, drop_at hx, hmin]
      refine ⟨hlt, ?_⟩
      refine callW_ms [.own, .ro] ?_
      simp [hmin]
      refine callX_of (w92 x.1 (k + sumN nTb (l.take j)) (by omega) (by omega) (by omega)) (by simp) ?_
      simp [hw, q0, q1, q5, hmin]
      refine ⟨hlt, ?_⟩
      refine callW_ms [.own, .ro] ?_
      simp [hmin]
      refine callX_of (w93 x.2.1 (k + sumN nTb (l.take j) + x.1.length) (by omega) (by omega) (by omega)) (by simp) ?_
      simp [hw, q0, q1, q5, hmin]
      refine ⟨hlt, ?_⟩
      refine callW_ms [.own, .ro] ?_
      simp [hmin]
      refine callX_of (w94 x.2.2 (k + sumN nTb (l.take j) + x.1.length + 2 * x.2.1.length) (by omega) h4 (by omega) (by omega)) (by simp) ?_
      simp [hw, q0, q1, q5, hmin, mkR_take k hx, hs, mkTb]
      omega
    · obtain rfl : j = l.length := by omega
      simp [q0, q1, q5]
theorem w46 (l : List TableP) (k : Int) (hl : l.length ≤ 2^36) (hd : ∀ t ∈ l, okT t) (hk : 0 ≤ k) (hk2 : k + sumN nTb l ≤ 2^40) : Contract Tryz.prog false 46 [.ro, .ro] [.sl false 3 ((mkR mkTb nTb k l).map tbT), .i .i64 k] [.i .i64 (k + sumN nTb l)] [] := by
  refine mk_contract [] Tryz.func46 (c := Tryz.f46.body.get!) (by kernel_rfl) k46 r46 (of_decide_eq_true rfl) fun _ => ?_
  unfold c46; simp
  refine twp_for l.length (fun j s => s.t 0 = .sl false 3 ((mkR mkTb nTb k l).map tbT) ∧ s.t 1 = .i .i64 (k + sumN nTb (l.take j)) ∧ s.t 5 = .i .i64 j ∧ s.H = lk [(1, [])]) [] (by simp) ?_ ?_
  · simp [sumN]
  · rintro j s hj ⟨q0, q1, q5, qH⟩
    rw [nf_of qH]
    simp [q0, q1, q5]
    refine ⟨fun hlt => ?_, fun hge => ?_⟩
    · have hw : IntKind.i64.wrap (j + 1) = j + 1 := wrap_id (by omega) (by omega)
      obtain ⟨x, hx⟩ := get_some hlt
      have hs : sumN nTb (l.take (j + 1)) = sumN nTb (l.take j) + (x.1.length + 2 * x.2.1.length + sumN nV x.2.2) := sumN_at hx
      have hle := sumN_take nTb l (j + 1)
      obtain ⟨h1, h2, h3, h4⟩ := hd x (List.mem_of_getElem? hx)
      have hn1 : ¬ (k + sumN nTb (l.take j) + x.1.length < 0) := by omega
      have hn2 : ¬ (k + sumN nTb (l.take j) + x.1.length + 2 * x.2.1.length < 0) := by omega
      have hn3 : ¬ (k + sumN nTb (l.take j) + x.1.length + 2 * x.2.1.length + sumN nV x.2.2 < 0) := by omega
      simp [hw, q0, q1, q5, mkR_get k hx, mkTb]
      refine callW_ms [.ro, .ro] ?_
      simp
      refine callX_of (w95 (cnt (k + sumN nTb (l.take j)) x.1.length) (k + sumN nTb (l.take j)) (by simp; omega) (by omega) (by omega)) (by simp) ?_
      simp [hw, q0, q1, q5, hn1, mkR_get k hx, mkTb]
      refine callW_ms [.ro, .ro] ?_
      simp
      refine callX_of (w96 x.2.1.length (k + sumN nTb (l.take j) + x.1.length) (by omega) (by omega) (by omega)) (by simp) ?_
      simp [hw, q0, q1, q5, hn2, mkR_get k hx, mkTb]
      refine callW_ms [.ro, .ro] ?_
      simp
      refine callX_of (w97 x.2.2 (k + sumN nTb (l.take j) + x.1.length + 2 * x.2.1.length) (by omega) h4 (by omega) (by omega)) (by simp) ?_
      simp [hw, q0, q1, q5, hn3, hs]
      omega
    · obtain rfl : j = l.length := by omega
      simp [q0, q1, q5]
def nW (w : WorldP) : Nat := w.1.length + w.2.1.length + sumN nTb w.2.2.1 + 4 * w.2.2.2.length
def mkW (k : Int) (w : WorldP) : WorldP := (cnt k w.1.length, cnt (k + w.1.length) w.2.1.length, mkR mkTb nTb (k + w.1.length + w.2.1.length) w.2.2.1, mkL 4 mkV (k + w.1.length + w.2.1.length + sumN nTb w.2.2.1) w.2.2.2.length)
@[simp] theorem mkW_1 (k : Int) (w : WorldP) : (mkW k w).1.length = w.1.length := by simp [mkW]
@[simp] theorem mkW_2 (k : Int) (w : WorldP) : (mkW k w).2.1.length = w.2.1.length := by simp [mkW]
@[simp] theorem mkW_3 (k : Int) (w : WorldP) : (mkW k w).2.2.1.length = w.2.2.1.length := by simp [mkW]
@[simp] theorem mkW_4 (k : Int) (w : WorldP) : (mkW k w).2.2.2.length = w.2.2.2.length := by simp [mkW]
theorem w16 (w : WorldP) (k : Int) (h : okW w) (hk : 0 ≤ k) (hk2 : k + nW w ≤ 2^30) : Contract Tryz.prog false 16 [.own, .ro] [worldO w.1 w.2.1 w.2.2.1 w.2.2.2, .i .i64 k] [.i .i64 (k + nW w)] [some (.sl true 1 ((mkW k w).1.map iT)), some (.sl true 1 ((mkW k w).2.1.map iT)), some (.sl true 3 ((mkW k w).2.2.1.map tbO)), some (.sl true 4 ((mkW k w).2.2.2.map vT))] := by
  refine mk_contract [some [(4, 0), (0, 0)], some [(4, 0), (0, 1)], some [(4, 0), (0, 2)], some [(4, 0), (0, 3)]] Tryz.func16 (c := Tryz.f16.body.get!) (by kernel_rfl) k16 r16 (of_decide_eq_true rfl) fun _ => ?_
  obtain ⟨h1, h2, ⟨h3, h4⟩, h5⟩ := h
  obtain ⟨g, f, ts, rs⟩ := w
  simp only [nW, mkW] at h1 h2 h3 h4 h5 hk2 ⊢
  unfold c16; simp
  refine callW_ms [.own, .ro] ?_
  simp
  refine callX_of (w42 g f k (by omega) (by omega) hk (by omega)) (by simp) ?_
  simp [entsO]
  refine callW_ms [.own, .ro] ?_
  simp
  refine callX_of (w43 ts (k + g.length + f.length) h3 h4 (by omega) (by omega)) (by simp) ?_
  simp
  refine callW_ms [.own, .ro] ?_
  simp
  refine callX_of (w44 rs (k + g.length + f.length + sumN nTb ts) (by omega) (by omega) (by omega)) (by simp) ?_
  simp
  omega
theorem w17 (w : WorldP) (k : Int) (h : okW w) (hk : 0 ≤ k) (hk2 : k + nW w ≤ 2^30) : Contract Tryz.prog false 17 [.ro, .ro] [worldR (mkW k w).1 (mkW k w).2.1 (mkW k w).2.2.1 (mkW k w).2.2.2, .i .i64 k] [.i .i64 (k + nW w)] [] := by
  refine mk_contract [] Tryz.func17 (c := Tryz.f17.body.get!) (by kernel_rfl) k17 r17 (of_decide_eq_true rfl) fun _ => ?_
  obtain ⟨h1, h2, ⟨h3, h4⟩, h5⟩ := h
  obtain ⟨g, f, ts, rs⟩ := w
  simp only [nW, mkW] at h1 h2 h3 h4 h5 hk2 ⊢
  have hn1 : ¬ (k + g.length + f.length < 0) := by omega
  have hn2 : ¬ (k + g.length + f.length + sumN nTb ts < 0) := by omega
  have hn3 : ¬ (k + g.length + f.length + sumN nTb ts + 4 * rs.length < 0) := by omega
  unfold c17; simp
  refine callW_ms [.ro, .ro] ?_
  simp [entsR]
  refine callX_of (w45 g.length f.length k (by omega) (by omega) hk (by omega)) (by simp) ?_
  simp [hn1]
  refine callW_ms [.ro, .ro] ?_
  simp
  refine callX_of (w46 ts (k + g.length + f.length) h3 h4 (by omega) (by omega)) (by simp) ?_
  simp [hn2]
  refine callW_ms [.ro, .ro] ?_
  simp
  refine callX_of (w47 rs.length (k + g.length + f.length + sumN nTb ts) (by omega) (by omega) (by omega)) (by simp) ?_
  simp [hn3]
  omega
theorem sumN_le {α : Type} {c d : α → Nat} (h : ∀ x, c x ≤ d x) (l : List α) : sumN c l ≤ sumN d l := by
  induction l with
  | nil => simp [sumN]
  | cons x l ih => have := h x; simp only [sumN]; omega
theorem sumN_mul {α : Type} (m : Nat) (c : α → Nat) (l : List α) : sumN (fun x => m * c x) l = m * sumN c l := by
  induction l with
  | nil => simp [sumN]
  | cons x l ih => simp only [sumN, ih, Nat.mul_add]
theorem nTb_le (t : TableP) : nTb t ≤ 4 * cT t := by
  have : sumN nV t.2.2 = 4 * sumN (fun v : List ValP => v.length) t.2.2 := sumN_mul 4 (fun v : List ValP => v.length) t.2.2
  unfold nTb cT; omega
theorem nW_le (w : WorldP) : nW w ≤ 4 * cW w := by
  have h1 := sumN_le nTb_le w.2.2.1
  rw [sumN_mul] at h1
  unfold nW cW; omega
end Go.Proofs.YtehmdblkkpdmoaaGreatT


namespace Go.Proofs.YtehmdblkkpdmoaaGreatT
set_option linter.unusedVariables false
set_option linter.unusedSimpArgs false
open Go
def c91 : TCode := (.seq (.ops [⟨(some 2), 4, .mv (.c (.s ⟨#[]⟩)), none, []⟩])
  (.seq (.seq (.ops [⟨(some 4), 6, .mv (.t 0), none, []⟩, ⟨(some 5), 7, .bin .leq (.t 4) (.c (.i .i64 0)), none, []⟩])
  (.cond (.t 5)
  (.seq (.ops [⟨(some 2), 4, .mv (.c (.s ⟨#[109, 48]⟩)), none, []⟩])
  .ret)
  .skip))
  (.seq (.ops [⟨(some 3), 5, .mv (.c (.s ⟨#[]⟩)), none, []⟩])
  (.seq (.block 0 (.loop (.seq (.seq (.ops [⟨(some 6), 8, .mv (.t 0), none, []⟩, ⟨(some 7), 9, .bin .gtr (.t 6) (.c (.i .i64 0)), none, []⟩])
  (.cond (.t 7)
  .skip
  (.exit 0)))
  (.block 1 (.seq (.ops [⟨(some 8), 10, .mv (.t 0), none, []⟩, ⟨(some 9), 11, .bin .rem (.t 8) (.c (.i .i64 10)), none, []⟩, ⟨(some 10), 12, .bin .add (.c (.i .i64 48)) (.t 9), none, []⟩, ⟨(some 11), 13, .toInt .u8 (.t 10), none, []⟩, ⟨(some 12), 14, .bslice 1 1 [(.i .u8 0)] [(0, (.t 11))], none, []⟩, ⟨(some 13), 15, .toS (.t 12), none, []⟩, ⟨(some 14), 16, .mv (.t 3), none, []⟩, ⟨(some 15), 17, .bin .add (.t 13) (.t 14), none, []⟩, ⟨(some 3), 5, .mv (.t 15), none, []⟩])
  (.ops [⟨(some 16), 18, .mv (.t 0), none, []⟩, ⟨(some 17), 19, .bin .quo (.t 16) (.c (.i .i64 10)), none, []⟩, ⟨(some 0), 2, .mv (.t 17), none, []⟩]))))))
  (.seq (.ops [⟨(some 18), 20, .mv (.t 3), none, []⟩, ⟨(some 19), 21, .bin .add (.c (.s ⟨#[109]⟩)) (.t 18), none, []⟩, ⟨(some 2), 4, .mv (.t 19), none, []⟩])
  .ret)))))
theorem k91 : compCode Tryz.prog Tryz.f91.ntmps Tryz.f91.body.get! = some c91 := by kernel_rfl
theorem r91 : resTmps Tryz.prog Tryz.f91.results.toList = some [.tmp 2] := by kernel_rfl
def c41 : TCode := (.seq (.ops [⟨(some 4), 6, .mv (.c (.i .i64 0)), none, []⟩])
  (.seq (.seq (.ops [⟨(some 5), 7, .mv (.c (.i .i64 0)), none, []⟩])
  (.block 0 (.loop (.seq (.seq (.ops [⟨(some 6), 8, .mv (.t 5), none, []⟩, ⟨(some 7), 9, .mv (.t 0), none, []⟩, ⟨(some 8), 10, .len false (.t 7), none, []⟩, ⟨(some 9), 11, .bin .lss (.t 6) (.t 8), none, []⟩])
  (.cond (.t 9)
  .skip
  (.exit 0)))
  (.seq (.block 1 (.seq (.ops [⟨(some 12), 14, .mv (.t 0), none, []⟩, ⟨(some 13), 15, .mv (.t 5), none, []⟩, ⟨(some 14), 16, .mv (.t 1), none, []⟩, ⟨(some 15), 17, .call 91 [((.t 14), 0)], none, []⟩, ⟨(some 16), 18, .iaddr 2 (.t 12) (.t 13), none, []⟩, ⟨(some 17), 19, .faddr 0 1 (.t 16), none, []⟩, ⟨none, 1004006, .store 1 (.t 17) (.t 15), none, []⟩])
  (.seq (.ops [⟨(some 18), 20, .mv (.t 1), none, []⟩, ⟨(some 19), 21, .bin .add (.t 18) (.c (.i .i64 1)), none, []⟩, ⟨(some 1), 3, .mv (.t 19), none, []⟩])
  (.seq (.ops [⟨(some 20), 22, .mv (.t 0), none, []⟩, ⟨(some 21), 23, .mv (.t 5), none, []⟩, ⟨(some 22), 24, .mv (.t 1), none, []⟩, ⟨(some 23), 25, .iaddr 2 (.t 20) (.t 21), none, []⟩, ⟨(some 24), 26, .faddr 1 1 (.t 23), none, []⟩, ⟨none, 1006005, .store 1 (.t 24) (.t 22), none, []⟩])
  (.ops [⟨(some 25), 27, .mv (.t 1), none, []⟩, ⟨(some 26), 28, .bin .add (.t 25) (.c (.i .i64 1)), none, []⟩, ⟨(some 1), 3, .mv (.t 26), none, []⟩])))))
  (.ops [⟨(some 10), 12, .mv (.t 5), none, []⟩, ⟨(some 11), 13, .bin .add (.t 10) (.c (.i .i64 1)), none, []⟩, ⟨(some 5), 7, .mv (.t 11), none, []⟩]))))))
  (.seq (.ops [⟨(some 27), 29, .mv (.t 1), none, []⟩, ⟨(some 4), 6, .mv (.t 27), none, []⟩])
  .ret)))
theorem k41 : compCode Tryz.prog Tryz.f41.ntmps Tryz.f41.body.get! = some c41 := by kernel_rfl
theorem r41 : resTmps Tryz.prog Tryz.f41.results.toList = some [.tmp 4] := by kernel_rfl
def c15 : TCode := (.seq (.ops [⟨(some 2), 4, .box 3 (.t 0), none, []⟩, ⟨(some 4), 6, .mv (.c (.i .i64 0)), none, []⟩])
  (.seq (.ops [⟨(some 5), 7, .faddr 0 1 (.t 2), none, []⟩, ⟨(some 6), 8, .load false 1 (.t 5), none, []⟩, ⟨(some 7), 9, .mv (.t 1), none, []⟩, ⟨(some 8), 10, .call 41 [((.t 6), 0), ((.t 7), 0)], none, []⟩, ⟨(some 1), 3, .mv (.t 8), none, []⟩])
  (.seq (.ops [⟨(some 9), 11, .faddr 1 1 (.t 2), none, []⟩, ⟨(some 10), 12, .load false 1 (.t 9), none, []⟩, ⟨(some 11), 13, .mv (.t 1), none, []⟩, ⟨(some 12), 14, .call 41 [((.t 10), 0), ((.t 11), 0)], none, []⟩, ⟨(some 1), 3, .mv (.t 12), none, []⟩])
  (.seq (.ops [⟨(some 13), 15, .faddr 2 1 (.t 2), none, []⟩, ⟨(some 14), 16, .load false 1 (.t 13), none, []⟩, ⟨(some 15), 17, .mv (.t 1), none, []⟩, ⟨(some 16), 18, .call 41 [((.t 14), 0), ((.t 15), 0)], none, []⟩, ⟨(some 1), 3, .mv (.t 16), none, []⟩])
  (.seq (.ops [⟨(some 17), 19, .mv (.t 1), none, []⟩, ⟨(some 4), 6, .mv (.t 17), none, []⟩])
  .ret)))))
theorem k15 : compCode Tryz.prog Tryz.f15.ntmps Tryz.f15.body.get! = some c15 := by kernel_rfl
theorem r15 : resTmps Tryz.prog Tryz.f15.results.toList = some [.tmp 4] := by kernel_rfl
theorem w91 (k : Int) (hk : k ≤ 2^40) : ∃ x : ByteArray, (True) ∧ Contract Tryz.prog false 91 [.ro] [.i .i64 k] [.s x] [] := by
  refine mk_contractE [] Tryz.func91 (c := Tryz.f91.body.get!) (by kernel_rfl) k91 r91 (of_decide_eq_true rfl) ?_
  unfold c91; simp
  refine ⟨fun h => ?_, fun h => ?_⟩
  · refine exK_of ⟨#[109, 48]⟩ trivial ?_
    simp
  · have hs0 : (⟨#[]⟩ : ByteArray).size = 0 := rfl
    refine twp_loop (fun n s => ∃ (c : Int) (S : ByteArray), 0 ≤ c ∧ c.toNat = n ∧ S.size + c ≤ 2^40 ∧ s.t 0 = .i .i64 c ∧ s.t 3 = .s S ∧ s.H = lk [(1, [])]) [14] (by simp) k.toNat ?_ ?_
    · exact ⟨k, ⟨#[]⟩, by omega, rfl, by rw [hs0]; omega, by simp, by simp, by simp⟩
    · rintro n s ⟨c, S, h0, hn, hS, q0, q3, qH⟩
      rw [nf_of qH]
      simp [q0, q3]
      have hq : IntKind.i64.wrap (c.tdiv 10) = c.tdiv 10 := wrap_id (by rw [Int.tdiv_eq_ediv_of_nonneg h0]; omega) (by rw [Int.tdiv_eq_ediv_of_nonneg h0]; omega)
      have hd : c.tdiv 10 = c / 10 := Int.tdiv_eq_ediv_of_nonneg h0
      have hs1 : ∀ b, (⟨#[b]⟩ : ByteArray).size = 1 := fun _ => rfl
      have hs2 : (⟨#[109]⟩ : ByteArray).size = 1 := rfl
      refine ⟨fun hp => ?_, fun hp => ?_⟩
      · simp [elemsOf, bytesT, q0, q3, hq, hs1]
        refine ⟨by omega, (c.tdiv 10).toNat, by omega, _, ⟨by omega, rfl, ?_, rfl⟩⟩
        omega
      · refine ⟨by rw [hs2]; omega, exK_of (⟨#[109]⟩ ++ S) trivial ?_⟩
        simp
theorem w41 (l : List (ByteArray × Int)) (k : Int) (hl : l.length ≤ 2^36) (hk : 0 ≤ k) (hk2 : k + 2 * l.length ≤ 2^39) : ∃ x : List (ByteArray × Int), (x.length = l.length) ∧ Contract Tryz.prog false 41 [.own, .ro] [.sl true 2 (l.map dT), .i .i64 k] [.i .i64 (k + 2 * l.length)] [some (.sl true 2 (x.map dT))] := by
  refine mk_contractE [some [(1, 0)]] Tryz.func41 (c := Tryz.f41.body.get!) (by kernel_rfl) k41 r41 (of_decide_eq_true rfl) ?_
  unfold c41; simp
  refine twp_for l.length (fun j s => ∃ x : List (ByteArray × Int), x.length = j ∧ s.t 0 = .rf [(1, 0)] 0 l.length ∧ s.t 1 = .i .i64 (k + 2 * j) ∧ s.t 5 = .i .i64 j ∧ s.H = lk [(1, [.sl true 2 (x.map dT ++ (l.map dT).drop j)])]) [] (by simp) ?_ ?_
  · exact ⟨[], rfl, by simp, by simp, by simp, by simp⟩
  · rintro j s hj ⟨X, hX, q0, q1, q5, qH⟩
    rw [nf_of qH]
    simp [q0, q1, q5]
    refine ⟨fun hlt => ?_, fun hge => ?_⟩
    · have hw : IntKind.i64.wrap (j + 1) = j + 1 := wrap_id (by omega) (by omega)
      obtain ⟨x, hx⟩ := get_some hlt
      have hw1 : IntKind.i64.wrap (k + 2 * j + 1) = k + 2 * j + 1 := wrap_id (by omega) (by omega)
      have hw2 : IntKind.i64.wrap (k + 2 * j + 1 + 1) = k + 2 * (j + 1) := by rw [wrap_id (by omega) (by omega)]; omega
      obtain ⟨m, _, hC⟩ := w91 (k + 2 * j) (by omega)
      refine callW_ms [.ro] ?_
      simp
      refine callX_of hC (by simp) ?_
      simp [hw, hw1, hw2, q0, q1, q5, drop_at hx, hX]
      exact ⟨hlt, X ++ [(m, k + 2 * j + 1)], by simp [hX], by simp⟩
    · obtain rfl : j = l.length := by omega
      refine exK_of X hX ?_
      simp [q0, q1, q5, hX]
theorem w15 (c r e : List (ByteArray × Int)) (k : Int) (hc : c.length ≤ 2^30) (hr : r.length ≤ 2^30) (he : e.length ≤ 2^30) (hk : 0 ≤ k) (hk2 : k ≤ 2^38) : ∃ x : List (ByteArray × Int) × List (ByteArray × Int) × List (ByteArray × Int), (x.1.length = c.length ∧ x.2.1.length = r.length ∧ x.2.2.length = e.length) ∧ Contract Tryz.prog false 15 [.own, .ro] [regO c r e, .i .i64 k] [.i .i64 (k + 2 * c.length + 2 * r.length + 2 * e.length)] [some (.sl true 2 (x.1.map dT)), some (.sl true 2 (x.2.1.map dT)), some (.sl true 2 (x.2.2.map dT))] := by
  refine mk_contractE [some [(4, 0), (0, 0)], some [(4, 0), (0, 1)], some [(4, 0), (0, 2)]] Tryz.func15 (c := Tryz.f15.body.get!) (by kernel_rfl) k15 r15 (of_decide_eq_true rfl) ?_
  unfold c15; unfold regO; simp
  obtain ⟨c', h1, hC⟩ := w41 c k (by omega) (by omega) (by omega)
  refine callW_ms [.own, .ro] ?_
  simp
  refine callX_of hC (by simp) ?_
  simp [h1]
  obtain ⟨r', h2, hC⟩ := w41 r (k + 2 * c.length) (by omega) (by omega) (by omega)
  refine callW_ms [.own, .ro] ?_
  simp
  refine callX_of hC (by simp) ?_
  simp [h2]
  obtain ⟨e', h3, hC⟩ := w41 e (k + 2 * c.length + 2 * r.length) (by omega) (by omega) (by omega)
  refine callW_ms [.own, .ro] ?_
  simp
  refine callX_of hC (by simp) ?_
  simp [h3]
  refine exK_of (c', r', e') ⟨h1, h2, h3⟩ ?_
  simp
end Go.Proofs.YtehmdblkkpdmoaaGreatT


namespace Go.Proofs.YtehmdblkkpdmoaaGreatT
set_option linter.unusedVariables false
set_option linter.unusedSimpArgs false
open Go
def c3 : TCode := (.seq (.ops [⟨(some 3), 5, .box 3 (.t 0), none, []⟩, ⟨(some 4), 6, .box 4 (.t 1), none, []⟩, ⟨(some 5), 7, .box 2 (.t 2), none, []⟩, ⟨(some 6), 8, .mv (.c (.b false)), none, []⟩])
  (.seq (.ops [⟨(some 7), 9, .mv (.c (.i .i64 1048576)), none, []⟩])
  (.seq (.ops [⟨(some 19), 21, .load true 3 (.t 3), none, []⟩, ⟨(some 20), 22, .mv (.t 7), none, []⟩, ⟨(some 21), 23, .call 6 [((.t 19), 0), ((.t 20), 0)], none, []⟩, ⟨(some 7), 9, .mv (.t 21), none, []⟩])
  (.seq (.seq (.ops [⟨(some 22), 24, .mv (.t 7), none, []⟩, ⟨(some 23), 25, .bin .lss (.t 22) (.c (.i .i64 0)), none, []⟩])
  (.cond (.t 23)
  (.seq (.ops [⟨(some 6), 8, .mv (.c (.b true)), none, []⟩])
  .ret)
  .skip))
  (.seq (.ops [⟨(some 24), 26, .load true 4 (.t 4), none, []⟩, ⟨(some 25), 27, .mv (.t 7), none, []⟩, ⟨(some 26), 28, .call 7 [((.t 24), 0), ((.t 25), 0)], none, []⟩, ⟨(some 7), 9, .mv (.t 26), none, []⟩])
  (.seq (.seq (.ops [⟨(some 27), 29, .mv (.t 7), none, []⟩, ⟨(some 28), 30, .bin .lss (.t 27) (.c (.i .i64 0)), none, []⟩])
  (.cond (.t 28)
  (.seq (.ops [⟨(some 6), 8, .mv (.c (.b true)), none, []⟩])
  .ret)
  .skip))
  (.seq (.draw [⟨(some 30), 32, .load true 3 (.t 3), none, []⟩, ⟨(some 31), 33, .call 9 [((.t 30), 0)], none, []⟩, ⟨(some 32), 34, .load true 4 (.t 4), none, [1]⟩, ⟨(some 33), 35, .call 10 [((.t 32), 0)], none, []⟩, ⟨(some 34), 36, .load true 2 (.t 5), none, [1, 3]⟩, ⟨(some 35), 37, .call 11 [((.t 34), 0)], none, []⟩, ⟨(some 36), 38, .call 8 [((.t 31), 0), ((.t 33), 0), ((.t 35), 0)], none, []⟩, ⟨(some 29), 31, .mv (.t 36), none, []⟩, ⟨(some 37), 39, .ext 0 (.t 29), none, []⟩, ⟨(some 38), 40, .ext 1 (.t 29), none, []⟩, ⟨(some 8), 10, .box 4 (.c (.ag [(.sl true 1 []), (.sl true 1 []), (.sl true 3 []), (.sl true 4 [])])), none, [0, 1, 2, 3, 4, 5, 6, 7, 8, 9]⟩, ⟨none, 1008011, .store 4 (.t 8) (.t 37), none, [1000000, 9]⟩, ⟨(some 9), 11, .mv (.t 38), none, []⟩])
  (.seq (.ops [⟨(some 39), 41, .load true 3 (.t 3), none, []⟩, ⟨(some 40), 42, .call 9 [((.t 39), 0)], none, []⟩, ⟨(some 10), 12, .box 3 (.c (.ag [(.sl true 2 []), (.sl true 2 []), (.sl true 2 [])])), none, []⟩, ⟨none, 1009003, .store 3 (.t 10) (.t 40), none, []⟩])
  (.seq (.ops [⟨(some 41), 43, .load true 4 (.t 4), none, []⟩, ⟨(some 42), 44, .call 10 [((.t 41), 0)], none, []⟩, ⟨(some 11), 13, .box 4 (.c (.ag [(.sl true 1 []), (.sl true 1 []), (.sl true 3 []), (.sl true 4 [])])), none, []⟩, ⟨none, 1010003, .store 4 (.t 11) (.t 42), none, []⟩])
  (.seq (.draw [⟨(some 44), 46, .load true 3 (.t 10), none, []⟩, ⟨(some 45), 47, .load true 4 (.t 11), none, []⟩, ⟨(some 46), 48, .load true 2 (.t 5), none, []⟩, ⟨(some 47), 49, .call 11 [((.t 46), 0)], none, [0, 1]⟩, ⟨(some 48), 50, .call 12 [((.t 44), 0), ((.t 45), 0), ((.t 47), 0)], none, []⟩, ⟨(some 43), 45, .mv (.t 48), none, []⟩, ⟨(some 49), 51, .ext 0 (.t 43), none, []⟩, ⟨(some 50), 52, .ext 1 (.t 43), none, []⟩, ⟨(some 12), 14, .box 4 (.c (.ag [(.sl true 1 []), (.sl true 1 []), (.sl true 3 []), (.sl true 4 [])])), none, [0, 1, 2, 3, 4, 5, 6, 7]⟩, ⟨none, 1011009, .store 4 (.t 12) (.t 49), none, [1000000, 7]⟩, ⟨(some 13), 15, .mv (.t 50), none, []⟩])
  (.seq (.seq (.ops [⟨(some 51), 53, .load true 4 (.t 12), none, []⟩, ⟨(some 52), 54, .load true 4 (.t 8), none, []⟩, ⟨(some 53), 55, .call 13 [((.t 51), 0), ((.t 52), 0)], none, []⟩, ⟨(some 54), 56, .un .not (.t 53), none, []⟩, ⟨(some 55), 57, .mv (.t 54), none, []⟩, ⟨(some 56), 58, .mv (.t 13), (some (55, false)), []⟩, ⟨(some 57), 59, .mv (.t 9), (some (55, false)), []⟩, ⟨(some 58), 60, .bin .neq (.t 56) (.t 57), (some (55, false)), []⟩, ⟨(some 59), 61, .pick (.t 55) (.c (.b true)) (.t 58), none, []⟩])
  (.cond (.t 59)
  (.seq (.ops [⟨(some 6), 8, .mv (.c (.b false)), none, []⟩])
  .ret)
  .skip))
  (.seq (.seq (.draw [⟨(some 60), 62, .load true 3 (.t 10), none, []⟩, ⟨(some 61), 63, .load true 3 (.t 3), none, []⟩, ⟨(some 62), 64, .call 9 [((.t 61), 0)], none, [0]⟩, ⟨(some 63), 65, .call 14 [((.t 60), 0), ((.t 62), 0)], none, []⟩, ⟨(some 64), 66, .un .not (.t 63), none, []⟩])
  (.cond (.t 64)
  (.seq (.ops [⟨(some 6), 8, .mv (.c (.b false)), none, []⟩])
  .ret)
  .skip))
  (.seq (.seq (.draw [⟨(some 65), 67, .load true 4 (.t 11), none, []⟩, ⟨(some 66), 68, .load true 4 (.t 4), none, []⟩, ⟨(some 67), 69, .call 10 [((.t 66), 0)], none, [0]⟩, ⟨(some 68), 70, .call 13 [((.t 65), 0), ((.t 67), 0)], none, []⟩, ⟨(some 69), 71, .un .not (.t 68), none, []⟩])
  (.cond (.t 69)
  (.seq (.ops [⟨(some 6), 8, .mv (.c (.b false)), none, []⟩])
  .ret)
  .skip))
  (.seq (.ops [⟨(some 14), 16, .mv (.c (.i .i64 1)), none, []⟩])
  (.seq (.ops [⟨(some 70), 72, .load true 3 (.t 10), none, []⟩, ⟨(some 71), 73, .mv (.t 14), none, []⟩, ⟨(some 72), 74, .call 15 [((.t 70), 0), ((.t 71), 0)], none, []⟩, ⟨(some 14), 16, .mv (.t 72), none, []⟩])
  (.seq (.ops [⟨(some 73), 75, .load true 4 (.t 11), none, []⟩, ⟨(some 74), 76, .mv (.t 14), none, []⟩, ⟨(some 75), 77, .call 16 [((.t 73), 0), ((.t 74), 0)], none, []⟩, ⟨(some 14), 16, .mv (.t 75), none, []⟩])
  (.seq (.seq (.ops [⟨(some 76), 78, .mv (.t 14), none, []⟩, ⟨(some 77), 79, .bin .lss (.t 76) (.c (.i .i64 0)), none, []⟩, ⟨(some 78), 80, .mv (.t 77), none, []⟩, ⟨(some 79), 81, .load true 4 (.t 12), (some (78, false)), []⟩, ⟨(some 80), 82, .load true 4 (.t 8), (some (78, false)), []⟩, ⟨(some 81), 83, .call 13 [((.t 79), 0), ((.t 80), 0)], (some (78, false)), []⟩, ⟨(some 82), 84, .un .not (.t 81), (some (78, false)), []⟩, ⟨(some 83), 85, .pick (.t 78) (.c (.b true)) (.t 82), none, []⟩, ⟨(some 84), 86, .mv (.t 83), none, []⟩, ⟨(some 85), 87, .mv (.t 13), (some (84, false)), []⟩, ⟨(some 86), 88, .mv (.t 9), (some (84, false)), []⟩, ⟨(some 87), 89, .bin .neq (.t 85) (.t 86), (some (84, false)), []⟩, ⟨(some 88), 90, .pick (.t 84) (.c (.b true)) (.t 87), none, []⟩])
  (.cond (.t 88)
  (.seq (.ops [⟨(some 6), 8, .mv (.c (.b false)), none, []⟩])
  .ret)
  .skip))
  (.seq (.ops [⟨(some 15), 17, .mv (.c (.i .i64 1)), none, []⟩])
  (.seq (.ops [⟨(some 89), 91, .load true 4 (.t 12), none, []⟩, ⟨(some 90), 92, .mv (.t 15), none, []⟩, ⟨(some 91), 93, .call 16 [((.t 89), 0), ((.t 90), 0)], none, []⟩, ⟨(some 15), 17, .mv (.t 91), none, []⟩])
  (.seq (.ops [⟨(some 16), 18, .mv (.c (.i .i64 1)), none, []⟩])
  (.seq (.ops [⟨(some 92), 94, .load true 4 (.t 12), none, []⟩, ⟨(some 93), 95, .mv (.t 16), none, []⟩, ⟨(some 94), 96, .call 17 [((.t 92), 0), ((.t 93), 0)], none, []⟩, ⟨(some 16), 18, .mv (.t 94), none, []⟩])
  (.seq (.seq (.ops [⟨(some 95), 97, .mv (.t 16), none, []⟩, ⟨(some 96), 98, .bin .lss (.t 95) (.c (.i .i64 0)), none, []⟩])
  (.cond (.t 96)
  (.seq (.ops [⟨(some 6), 8, .mv (.c (.b false)), none, []⟩])
  .ret)
  .skip))
  (.seq (.seq (.ops [⟨(some 97), 99, .mv (.t 16), none, []⟩, ⟨(some 98), 100, .mv (.t 15), none, []⟩, ⟨(some 99), 101, .bin .neq (.t 97) (.t 98), none, []⟩])
  (.cond (.t 99)
  (.seq (.ops [⟨(some 6), 8, .mv (.c (.b false)), none, []⟩])
  .ret)
  .skip))
  (.seq (.draw [⟨(some 101), 103, .load true 3 (.t 3), none, []⟩, ⟨(some 102), 104, .call 9 [((.t 101), 0)], none, []⟩, ⟨(some 103), 105, .load true 4 (.t 4), none, [1]⟩, ⟨(some 104), 106, .call 10 [((.t 103), 0)], none, []⟩, ⟨(some 105), 107, .load true 2 (.t 5), none, [1, 3]⟩, ⟨(some 106), 108, .call 11 [((.t 105), 0)], none, []⟩, ⟨(some 107), 109, .call 12 [((.t 102), 0), ((.t 104), 0), ((.t 106), 0)], none, []⟩, ⟨(some 100), 102, .mv (.t 107), none, []⟩, ⟨(some 108), 110, .ext 0 (.t 100), none, []⟩, ⟨(some 109), 111, .ext 1 (.t 100), none, []⟩, ⟨(some 17), 19, .box 4 (.c (.ag [(.sl true 1 []), (.sl true 1 []), (.sl true 3 []), (.sl true 4 [])])), none, [0, 1, 2, 3, 4, 5, 6, 7, 8, 9]⟩, ⟨none, 1031011, .store 4 (.t 17) (.t 108), none, [1000000, 9]⟩, ⟨(some 18), 20, .mv (.t 109), none, []⟩])
  (.seq (.seq (.ops [⟨(some 110), 112, .load true 4 (.t 17), none, []⟩, ⟨(some 111), 113, .load true 4 (.t 8), none, []⟩, ⟨(some 112), 114, .call 13 [((.t 110), 0), ((.t 111), 0)], none, []⟩, ⟨(some 113), 115, .un .not (.t 112), none, []⟩, ⟨(some 114), 116, .mv (.t 113), none, []⟩, ⟨(some 115), 117, .mv (.t 18), (some (114, false)), []⟩, ⟨(some 116), 118, .mv (.t 9), (some (114, false)), []⟩, ⟨(some 117), 119, .bin .neq (.t 115) (.t 116), (some (114, false)), []⟩, ⟨(some 118), 120, .pick (.t 114) (.c (.b true)) (.t 117), none, []⟩])
  (.cond (.t 118)
  (.seq (.ops [⟨(some 6), 8, .mv (.c (.b false)), none, []⟩])
  .ret)
  .skip))
  (.seq (.ops [⟨(some 16), 18, .mv (.c (.i .i64 1)), none, []⟩])
  (.seq (.ops [⟨(some 119), 121, .load true 4 (.t 12), none, []⟩, ⟨(some 120), 122, .mv (.t 16), none, []⟩, ⟨(some 121), 123, .call 17 [((.t 119), 0), ((.t 120), 0)], none, []⟩, ⟨(some 16), 18, .mv (.t 121), none, []⟩])
  (.seq (.seq (.ops [⟨(some 122), 124, .mv (.t 16), none, []⟩, ⟨(some 123), 125, .bin .lss (.t 122) (.c (.i .i64 0)), none, []⟩])
  (.cond (.t 123)
  (.seq (.ops [⟨(some 6), 8, .mv (.c (.b false)), none, []⟩])
  .ret)
  .skip))
  (.seq (.seq (.ops [⟨(some 124), 126, .mv (.t 16), none, []⟩, ⟨(some 125), 127, .mv (.t 15), none, []⟩, ⟨(some 126), 128, .bin .neq (.t 124) (.t 125), none, []⟩])
  (.cond (.t 126)
  (.seq (.ops [⟨(some 6), 8, .mv (.c (.b false)), none, []⟩])
  .ret)
  .skip))
  (.seq (.ops [⟨(some 6), 8, .mv (.c (.b true)), none, []⟩])
  .ret))))))))))))))))))))))))))))))
theorem k3 : compCode Tryz.prog Tryz.f3.ntmps Tryz.f3.body.get! = some c3 := by kernel_rfl
theorem r3 : resTmps Tryz.prog Tryz.f3.results.toList = some [.tmp 6] := by kernel_rfl
theorem split_at {α : Type} {l : List α} {j : Nat} {t : α} (h : l[j]? = some t) : l = l.take j ++ t :: l.drop (j + 1) ∧ (l.take j).length = j := by
  have hl := (List.getElem?_eq_some_iff.1 h).1
  refine ⟨?_, by simp; omega⟩
  have h2 : l.drop j = t :: l.drop (j + 1) := by rw [List.drop_eq_getElem_cons hl, (List.getElem?_eq_some_iff.1 h).2]
  rw [← h2, List.take_append_drop]
theorem live_at {c r d : DeclsP} {w : WorldP} {e : Int × Int} (hk : okW w) (hw : WorldOkP c r d w) (hl : liveP w.1 w.2.1 e.1 e.2) : ∃ (A B : List TableP) (t : TableP) (k : Nat), w.2.2.1 = A ++ t :: B ∧ t.2.1[k]? = some e ∧
    whereG e w.2.2.1 0 = ((A.length : Int), (k : Int)) ∧ A.length ≤ 2^36 ∧ B.length ≤ 2^36 ∧ okT t ∧ tabP c t ∧ (∀ v ∈ t.2.2, v.length = t.2.1.length) ∧ k < t.2.1.length := by
  obtain ⟨h1, h2, ⟨h3, h4⟩, h5⟩ := hk
  obtain ⟨g, f, ts, rs⟩ := w
  simp only at h1 h2 h3 h4 h5 hl ⊢
  obtain ⟨j, k, t, hj, hk, hwj⟩ := where_row 0 (live_row hw.1.2.1 hw.2.2.2.2 hl)
  rw [Nat.zero_add] at hwj
  simp only at hj hwj
  obtain ⟨e1, e2⟩ := split_at hj
  have htm := List.mem_of_getElem? hj
  refine ⟨ts.take j, ts.drop (j + 1), t, k, e1, hk, by rw [e2]; exact hwj, ?_, ?_, h4 t htm, hw.2.2.1 t htm, tab_vals (hw.2.2.1 t htm), (List.getElem?_eq_some_iff.1 hk).1⟩
  · simp; omega
  · simp; omega
end Go.Proofs.YtehmdblkkpdmoaaGreatT


namespace Go.Proofs.YtehmdblkkpdmoaaGreatT
set_option linter.unusedVariables false
set_option linter.unusedSimpArgs false
open Go
abbrev CellP := Int × ValP
@[simp] def clT (x : Int × ValP) : List TV := .i .i64 x.1 :: vT x.2
@[simp] theorem fzL_clT (x : Int × ValP) : fzL (clT x) = clT x := rfl
@[simp] theorem fzLL_clT (l : List (Int × ValP)) : fzLL (l.map clT) = l.map clT := fzLL_map fzL_clT l
@[simp] theorem noROLL_clT (l : List (Int × ValP)) : noROLL (l.map clT) = true := noROLL_map (fun _ => rfl) l
@[simp] theorem noref_clT (l : List (Int × ValP)) : (l.map clT).all (·.all noref) = true := noref_map (fun _ => rfl) l
@[simp] theorem srcT_clT (H : Hp) (z : Nat) (l : List (Int × ValP)) : srcT H (.sl false z (l.map clT)) = some (z, l.map clT, H, []) := by simp only [srcT, noref_clT, if_true]
abbrev CmdP := Int × (Int × Int) × Int × ValP × List CellP
@[simp] def cmT (x : CmdP) : List TV := .i .i64 x.1 :: (eT x.2.1 ++ .i .i64 x.2.2.1 :: (vT x.2.2.2.1 ++ [.sl false 5 (x.2.2.2.2.map clT)]))
@[simp] def cmO (x : CmdP) : List TV := [.i .i64 x.1, .i .i64 x.2.1.1, .i .i64 x.2.1.2, .i .i64 x.2.2.1, .i .i64 x.2.2.2.1.1, .i .i64 x.2.2.2.1.2.1, .f x.2.2.2.1.2.2.1, .f x.2.2.2.1.2.2.2, .sl true 5 (x.2.2.2.2.map clT)]
@[simp] theorem fzL_cmT (x : CmdP) : fzL (cmT x) = cmT x := by simp
@[simp] theorem fzL_cmO (x : CmdP) : fzL (cmO x) = cmT x := by simp
@[simp] theorem fzLL_cmT (l : List CmdP) : fzLL (l.map cmT) = l.map cmT := fzLL_map fzL_cmT l
@[simp] theorem fzLL_cmO (l : List CmdP) : fzLL (l.map cmO) = l.map cmT := fzLL_mapR fzL_cmO l
@[simp] theorem noROLL_cmO (l : List CmdP) : noROLL (l.map cmO) = true := noROLL_map (fun _ => by simp [noROL, noRO]) l
@[simp] theorem noref_cmT (l : List CmdP) : (l.map cmT).all (·.all noref) = true := noref_map (fun _ => by simp) l
end Go.Proofs.YtehmdblkkpdmoaaGreatT


namespace Go.Proofs.YtehmdblkkpdmoaaGreatT
set_option linter.unusedVariables false
set_option linter.unusedSimpArgs false
open Go
def c126 : TCode := (.seq (.ops [⟨(some 2), 4, .box 4 (.t 0), none, []⟩, ⟨(some 4), 6, .box 4 (.c (.ag [(.sl true 1 []), (.sl true 1 []), (.sl true 3 []), (.sl true 4 [])])), none, []⟩, ⟨(some 5), 7, .mv (.c (.i .i64 0)), none, []⟩])
  (.seq (.seq (.ops [⟨(some 6), 8, .mv (.c (.i .i64 0)), none, []⟩])
  (.block 0 (.loop (.seq (.seq (.ops [⟨(some 9), 11, .mv (.t 6), none, []⟩, ⟨(some 10), 12, .faddr 2 1 (.t 2), none, []⟩, ⟨(some 11), 13, .load false 1 (.t 10), none, []⟩, ⟨(some 12), 14, .len false (.t 11), none, []⟩, ⟨(some 13), 15, .bin .lss (.t 9) (.t 12), none, []⟩])
  (.cond (.t 13)
  .skip
  (.exit 0)))
  (.seq (.block 1 (.seq (.ops [⟨(some 16), 18, .faddr 2 1 (.t 2), none, []⟩, ⟨(some 17), 19, .load false 1 (.t 16), none, []⟩, ⟨(some 18), 20, .mv (.t 6), none, []⟩, ⟨(some 19), 21, .iaddr 3 (.t 17) (.t 18), none, []⟩, ⟨(some 20), 22, .faddr 0 1 (.t 19), none, []⟩, ⟨(some 21), 23, .load false 1 (.t 20), none, []⟩, ⟨(some 22), 24, .mv (.t 1), none, []⟩, ⟨(some 23), 25, .call 64 [((.t 21), 0), ((.t 22), 0)], none, []⟩])
  (.cond (.t 23)
  (.seq (.ops [⟨(some 24), 26, .load true 4 (.t 2), none, []⟩, ⟨(some 25), 27, .mv (.t 6), none, []⟩, ⟨none, 1005002, .store 4 (.t 4) (.t 24), none, []⟩, ⟨(some 5), 7, .mv (.t 25), none, []⟩])
  .ret)
  .skip)))
  (.ops [⟨(some 14), 16, .mv (.t 6), none, []⟩, ⟨(some 15), 17, .bin .add (.t 14) (.c (.i .i64 1)), none, []⟩, ⟨(some 6), 8, .mv (.t 15), none, []⟩]))))))
  (.seq (.seq (.ops [⟨(some 26), 28, .faddr 2 1 (.t 2), none, []⟩, ⟨(some 27), 29, .load false 1 (.t 26), none, []⟩, ⟨(some 28), 30, .len false (.t 27), none, []⟩, ⟨(some 29), 31, .bin .geq (.t 28) (.c (.i .i64 40)), none, []⟩])
  (.cond (.t 29)
  (.seq (.ops [⟨(some 30), 32, .load true 4 (.t 2), none, []⟩, ⟨none, 1007001, .store 4 (.t 4) (.t 30), none, []⟩, ⟨(some 5), 7, .mv (.c (.i .i64 (-1))), none, []⟩])
  .ret)
  .skip))
  (.seq (.ops [⟨(some 31), 33, .bslice 1 0 [(.i .i64 0)] [], none, []⟩, ⟨(some 32), 34, .mv (.t 1), none, []⟩, ⟨(some 33), 35, .app 1 8 (.t 31) (.t 32), none, []⟩, ⟨(some 34), 36, .build [(.sl true 1 []), (.sl true 2 []), (.sl true 1 [])] [(0, 1, (.t 33))], none, []⟩, ⟨(some 7), 9, .box 3 (.c (.ag [(.sl true 1 []), (.sl true 2 []), (.sl true 1 [])])), none, []⟩, ⟨none, 1008005, .store 3 (.t 7) (.t 34), none, []⟩])
  (.seq (.seq (.ops [⟨(some 8), 10, .mv (.c (.i .i64 0)), none, []⟩])
  (.block 2 (.loop (.seq (.seq (.ops [⟨(some 35), 37, .mv (.t 8), none, []⟩, ⟨(some 36), 38, .mv (.t 1), none, []⟩, ⟨(some 37), 39, .len false (.t 36), none, []⟩, ⟨(some 38), 40, .bin .lss (.t 35) (.t 37), none, []⟩])
  (.cond (.t 38)
  .skip
  (.exit 2)))
  (.seq (.block 3 (.ops [⟨(some 41), 43, .faddr 2 1 (.t 7), none, []⟩, ⟨(some 42), 44, .load false 1 (.t 41), none, []⟩, ⟨(some 43), 45, .bslice 4 0 [(.i .i64 0), (.i .i64 0), (.f 0), (.f 0)] [], none, []⟩, ⟨(some 44), 46, .bslice 1 1 [(.sl true 4 [])] [(0, (.t 43))], none, []⟩, ⟨(some 45), 47, .app 1 24 (.t 42) (.t 44), none, []⟩, ⟨(some 46), 48, .faddr 2 1 (.t 7), none, []⟩, ⟨none, 1012006, .store 1 (.t 46) (.t 45), none, []⟩]))
  (.ops [⟨(some 39), 41, .mv (.t 8), none, []⟩, ⟨(some 40), 42, .bin .add (.t 39) (.c (.i .i64 1)), none, []⟩, ⟨(some 8), 10, .mv (.t 40), none, []⟩]))))))
  (.seq (.ops [⟨(some 47), 49, .faddr 2 1 (.t 2), none, []⟩, ⟨(some 48), 50, .load false 1 (.t 47), none, []⟩, ⟨(some 49), 51, .load true 3 (.t 7), none, []⟩, ⟨(some 50), 52, .bslice 3 1 [(.sl true 1 []), (.sl true 2 []), (.sl true 1 [])] [(0, (.t 49))], none, []⟩, ⟨(some 51), 53, .app 3 72 (.t 48) (.t 50), none, []⟩, ⟨(some 52), 54, .faddr 2 1 (.t 2), none, []⟩, ⟨none, 1013006, .store 1 (.t 52) (.t 51), none, []⟩])
  (.seq (.draw [⟨(some 53), 55, .load true 4 (.t 2), none, []⟩, ⟨(some 54), 56, .faddr 2 1 (.t 2), none, []⟩, ⟨(some 55), 57, .load false 1 (.t 54), none, []⟩, ⟨(some 56), 58, .len false (.t 55), none, []⟩, ⟨(some 57), 59, .bin .sub (.t 56) (.c (.i .i64 1)), none, []⟩, ⟨none, 1014005, .store 4 (.t 4) (.t 53), none, [1000000, 1, 2, 3, 4]⟩, ⟨(some 5), 7, .mv (.t 57), none, []⟩])
  .ret)))))))
theorem k126 : compCode Tryz.prog Tryz.f126.ntmps Tryz.f126.body.get! = some c126 := by kernel_rfl
theorem r126 : resTmps Tryz.prog Tryz.f126.results.toList = some [.cell 4 true 4, .tmp 5] := by kernel_rfl
def c99 : TCode := (.seq (.ops [⟨(some 3), 5, .box 4 (.t 0), none, []⟩, ⟨(some 6), 8, .mv (.c (.sl true 5 [])), none, []⟩])
  (.seq (.ops [⟨(some 9), 11, .bslice 5 0 [(.i .i64 0), (.i .i64 0), (.i .i64 0), (.f 0), (.f 0)] [], none, []⟩, ⟨(some 7), 9, .mv (.t 9), none, []⟩])
  (.seq (.seq (.ops [⟨(some 8), 10, .mv (.c (.i .i64 0)), none, []⟩])
  (.block 0 (.loop (.seq (.seq (.ops [⟨(some 10), 12, .mv (.t 8), none, []⟩, ⟨(some 11), 13, .faddr 2 1 (.t 3), none, []⟩, ⟨(some 12), 14, .load false 1 (.t 11), none, []⟩, ⟨(some 13), 15, .mv (.t 1), none, []⟩, ⟨(some 14), 16, .iaddr 3 (.t 12) (.t 13), none, []⟩, ⟨(some 15), 17, .faddr 0 1 (.t 14), none, []⟩, ⟨(some 16), 18, .load false 1 (.t 15), none, []⟩, ⟨(some 17), 19, .len false (.t 16), none, []⟩, ⟨(some 18), 20, .bin .lss (.t 10) (.t 17), none, []⟩])
  (.cond (.t 18)
  .skip
  (.exit 0)))
  (.seq (.block 1 (.draw [⟨(some 21), 23, .mv (.t 7), none, []⟩, ⟨(some 22), 24, .faddr 2 1 (.t 3), none, []⟩, ⟨(some 23), 25, .load false 1 (.t 22), none, []⟩, ⟨(some 24), 26, .mv (.t 1), none, []⟩, ⟨(some 25), 27, .iaddr 3 (.t 23) (.t 24), none, []⟩, ⟨(some 26), 28, .faddr 0 1 (.t 25), none, []⟩, ⟨(some 27), 29, .load false 1 (.t 26), none, []⟩, ⟨(some 28), 30, .mv (.t 8), none, []⟩, ⟨(some 29), 31, .iaddr 1 (.t 27) (.t 28), none, []⟩, ⟨(some 30), 32, .load false 1 (.t 29), none, []⟩, ⟨(some 31), 33, .faddr 2 1 (.t 3), none, []⟩, ⟨(some 32), 34, .load false 1 (.t 31), none, []⟩, ⟨(some 33), 35, .mv (.t 1), none, []⟩, ⟨(some 34), 36, .iaddr 3 (.t 32) (.t 33), none, []⟩, ⟨(some 35), 37, .faddr 2 1 (.t 34), none, []⟩, ⟨(some 36), 38, .load false 1 (.t 35), none, []⟩, ⟨(some 37), 39, .mv (.t 8), none, []⟩, ⟨(some 38), 40, .iaddr 1 (.t 36) (.t 37), none, []⟩, ⟨(some 39), 41, .load false 1 (.t 38), none, []⟩, ⟨(some 40), 42, .mv (.t 2), none, []⟩, ⟨(some 41), 43, .iaddr 4 (.t 39) (.t 40), none, []⟩, ⟨(some 42), 44, .load true 4 (.t 41), none, []⟩, ⟨(some 43), 45, .build [(.i .i64 0), (.i .i64 0), (.i .i64 0), (.f 0), (.f 0)] [(0, 1, (.t 30)), (1, 4, (.t 42))], none, []⟩, ⟨(some 44), 46, .bslice 5 1 [(.i .i64 0), (.i .i64 0), (.i .i64 0), (.f 0), (.f 0)] [(0, (.t 43))], none, [0]⟩, ⟨(some 45), 47, .app 5 40 (.t 21) (.t 44), none, []⟩, ⟨(some 7), 9, .mv (.t 45), none, []⟩]))
  (.ops [⟨(some 19), 21, .mv (.t 8), none, []⟩, ⟨(some 20), 22, .bin .add (.t 19) (.c (.i .i64 1)), none, []⟩, ⟨(some 8), 10, .mv (.t 20), none, []⟩]))))))
  (.seq (.ops [⟨(some 46), 48, .mv (.t 7), none, []⟩, ⟨(some 6), 8, .mv (.t 46), none, []⟩])
  .ret))))
theorem k99 : compCode Tryz.prog Tryz.f99.ntmps Tryz.f99.body.get! = some c99 := by kernel_rfl
theorem r99 : resTmps Tryz.prog Tryz.f99.results.toList = some [.tmp 6] := by kernel_rfl
def newT (cols : List Int) : TableP := (cols, [], List.replicate cols.length [])
def tabW (ts : List TableP) (cols : List Int) : List TableP × Nat := if 0 ≤ tabIx ts cols then (ts, (tabIx ts cols).toNat) else (ts ++ [newT cols], ts.length)
def fullT (ts : List TableP) (cols : List Int) : Prop := ¬ 0 ≤ tabIx ts cols ∧ 40 ≤ ts.length
theorem tabIx_none {ts : List TableP} {cols : List Int} (h : noT cols ts) : tabIx ts cols = -1 := idxP_none h
set_option maxRecDepth 100000 in
theorem w126 (g f : List Int) (ts : List TableP) (rs : List ValP) (cols : List Int) (hok : ∀ t ∈ ts, t.1.length ≤ 2^36) (hl : ts.length ≤ 2^36) (hc : cols.length ≤ 2^36) (hn : ¬ fullT ts cols) : Contract Tryz.prog false 126 [.own, .ro] [worldO g f ts rs, .sl false 1 (cols.map iT)] [worldO g f (tabW ts cols).1 rs, .i .i64 (tabW ts cols).2] [none, none, none, none] := by
  refine mk_contract [none, none, none, none] Tryz.func126 (c := Tryz.f126.body.get!) (by kernel_rfl) k126 r126 (of_decide_eq_true rfl) fun _ => ?_
  unfold c126; simp
  refine twp_for ts.length (fun j s => noT cols (ts.take j) ∧ s.t 1 = .sl false 1 (cols.map iT) ∧ s.t 2 = .pt [(4, 0)] 0 0 ∧ s.t 4 = .pt [(6, 0)] 0 0 ∧ s.t 6 = .i .i64 j ∧ s.H = lk [(1, [.junk, .junk, .junk, .junk]), (4, [.po true [.sl true 1 (g.map iT), .sl true 1 (f.map iT), .sl true 3 (ts.map tbO), .sl true 4 (rs.map vT)]]), (6, [.po true [.sl true 1 [], .sl true 1 [], .sl true 3 [], .sl true 4 []]])]) [] (by simp) ?_ ?_
  · refine ⟨by simp [noT_nil], ?_⟩
    simp
  · rintro j s hj ⟨hno, q1, q2, q4, q6, qH⟩
    rw [nf_of qH]
    have hw : IntKind.i64.wrap ((j : Int) + 1) = j + 1 := wrap_id (by omega) (by omega)
    cases hb9 : decide (j < ts.length)
    · have hge := of_decide_eq_false hb9
      rw [List.take_of_length_le (by omega)] at hno
      have hix := tabIx_none hno
      have hlt : ts.length < 40 := by
        refine Decidable.byContradiction fun h => hn ⟨by omega, by omega⟩
      have hlt' : ¬ (40 ≤ ts.length) := by omega
      have eW : tabW ts cols = (ts ++ [newT cols], ts.length) := by unfold tabW; rw [if_neg (by omega)]
      rw [eW]
      simp [q1, q2, q4, q6, hb9, hlt']
      refine ⟨by omega, fun _ => ⟨by omega, ?_⟩⟩
      refine twp_for cols.length (fun j s => ∃ L : List (List ValP), L = List.replicate j [] ∧ L.length = j ∧ s.t 1 = .sl false 1 (cols.map iT) ∧ s.t 2 = .pt [(4, 0)] 0 0 ∧ s.t 4 = .pt [(6, 0)] 0 0 ∧ s.t 7 = .pt [(9, 0)] 0 0 ∧ s.t 8 = .i .i64 j ∧ s.H = lk [(1, [.junk, .junk, .junk, .junk]), (4, [.po true [.sl true 1 (g.map iT), .sl true 1 (f.map iT), .sl true 3 (ts.map tbO), .sl true 4 (rs.map vT)]]), (6, [.po true [.sl true 1 [], .sl true 1 [], .sl true 3 [], .sl true 4 []]]), (9, [.po true [.sl true 1 (cols.map iT), .sl true 2 [], .sl true 1 (L.map cvO)]])]) [33, 35, 45, 46, 47] (by simp) ?_ ?_
      · refine ⟨[], rfl, rfl, ?_⟩
        simp [q1, q2, q4, q6]
      · rintro j s hj ⟨L, hL, hLl, q1, q2, q4, q7, q8, qH⟩
        rw [nf_of qH]
        have hw : IntKind.i64.wrap ((j : Int) + 1) = j + 1 := wrap_id (by omega) (by omega)
        cases hb9 : decide (j < cols.length)
        · have hge := of_decide_eq_false hb9
          obtain rfl : j = cols.length := by omega
          have hw2 : IntKind.i64.wrap (ts.length : Int) = ts.length := wrap_id (by omega) (by omega)
          simp [q1, q2, q4, q7, q8, hb9, takeRows, hw2]
          exact ⟨by omega, rfl, rfl, by rw [hL]; rfl⟩
        · have hlt := of_decide_eq_true hb9
          have e : List.map cvO L ++ [[TV.sl true 4 []]] = List.replicate (j + 1) [TV.sl true 4 []] := by rw [hL]; simp [List.replicate_succ']
          simp [q1, q2, q4, q7, q8, hb9, hw, takeRows, hLl, e]
          omega
    · have hlt := of_decide_eq_true hb9
      obtain ⟨t, ht⟩ := get_some hlt
      have hm := List.mem_of_getElem? ht
      have hsn := take_snoc ht
      simp [q1, q2, q4, q6, hb9, ht, hw]
      by_cases hq : t.1 = cols
      · have hix : tabIx ts cols = j := idxP_at ht (by simp [isT, hq]) hno
        have eW : tabW ts cols = (ts, j) := by unfold tabW; rw [if_pos (by omega), hix]; rfl
        rw [eW]
        refine ⟨hlt, ?_⟩
        refine callW_ms [.ro, .ro] ?_
        simp [ht]
        refine callX_of ((w64 t.1 cols (by have := hok t hm; omega) (by omega)).t hq) (by simp) ?_
        simp [q1, q2, q4, q6, hb9, hw]
      · refine ⟨hlt, ?_⟩
        refine callW_ms [.ro, .ro] ?_
        simp [ht]
        refine callX_of ((w64 t.1 cols (by have := hok t hm; omega) (by omega)).f hq) (by simp) ?_
        simp [q1, q2, q4, q6, hb9, hw, ht]
        rw [hsn]
        exact ⟨hlt, noT_snoc hno (by simp [isT, hq])⟩
theorem W126a (g f : List Int) (ts : List TableP) (rs : List ValP) (cols : List Int) (hok : ∀ t ∈ ts, t.1.length ≤ 2^36) (hl : ts.length ≤ 2^36) (hc : cols.length ≤ 2^36) (hn : fullT ts cols) : Contract Tryz.prog true 126 [.ro, .ro] [worldR g f ts rs, .sl false 1 (cols.map iT)] [worldR g f ts rs, .i .i64 (-1)] [] := by
  refine mk_contract [] Tryz.func126 (c := Tryz.f126.body.get!) (by kernel_rfl) k126 r126 (of_decide_eq_true rfl) fun _ => ?_
  unfold c126; simp
  refine twp_for ts.length (fun j s => noT cols (ts.take j) ∧ s.t 1 = .sl false 1 (cols.map iT) ∧ s.t 2 = .pt [(4, 0)] 0 0 ∧ s.t 4 = .pt [(6, 0)] 0 0 ∧ s.t 6 = .i .i64 j ∧ s.H = lk [(1, []), (4, [.po true [.sl false 1 (g.map iT), .sl false 1 (f.map iT), .sl false 3 (ts.map tbT), .sl false 4 (rs.map vT)]]), (6, [.po true [.sl true 1 [], .sl true 1 [], .sl true 3 [], .sl true 4 []]])]) [] (by simp) ?_ ?_
  · refine ⟨by simp [noT_nil], ?_⟩
    simp
  · rintro j s hj ⟨hno, q1, q2, q4, q6, qH⟩
    rw [nf_of qH]
    have hw : IntKind.i64.wrap ((j : Int) + 1) = j + 1 := wrap_id (by omega) (by omega)
    cases hb9 : decide (j < ts.length)
    · have hge : (40 : Int) ≤ ts.length := by have := hn.2; omega
      simp [q1, q2, q4, q6, hb9, hge]
    · have hlt := of_decide_eq_true hb9
      obtain ⟨t, ht⟩ := get_some hlt
      have hm := List.mem_of_getElem? ht
      have hsn := take_snoc ht
      simp [q1, q2, q4, q6, hb9, ht, hw]
      by_cases hq : t.1 = cols
      · have hix : tabIx ts cols = j := idxP_at ht (by simp [isT, hq]) hno
        exact absurd (by omega) hn.1
      · refine callW_ms [.ro, .ro] ?_
        simp [ht]
        refine callX_of ((w64 t.1 cols (by have := hok t hm; omega) (by omega)).f hq) (by simp) ?_
        simp [q1, q2, q4, q6, hb9, hw, ht]
        rw [hsn]
        exact ⟨hlt, noT_snoc hno (by simp [isT, hq])⟩
theorem W126f (g f : List Int) (ts : List TableP) (rs : List ValP) (cols : List Int) (hok : ∀ t ∈ ts, t.1.length ≤ 2^36) (hl : ts.length ≤ 2^36) (hc : cols.length ≤ 2^36) (hn : fullT ts cols) : Contract Tryz.prog false 126 [.ro, .ro] [worldR g f ts rs, .sl false 1 (cols.map iT)] [.ag [.sl false 0 ((g.map iT).map fun _ => []), .sl false 0 ((f.map iT).map fun _ => []), .sl false 0 ((ts.map tbT).map fun _ => []), .sl false 0 ((rs.map vT).map fun _ => [])], .i .i64 (-1)] [] :=
  Contract.blurs (W126a g f ts rs cols hok hl hc hn) rfl rfl
end Go.Proofs.YtehmdblkkpdmoaaGreatT


namespace Go.Proofs.YtehmdblkkpdmoaaGreatT
set_option linter.unusedVariables false
set_option linter.unusedSimpArgs false
open Go
def c100 : TCode := (.seq (.ops [⟨(some 4), 6, .box 4 (.t 0), none, []⟩, ⟨(some 8), 10, .box 4 (.c (.ag [(.sl true 1 []), (.sl true 1 []), (.sl true 3 []), (.sl true 4 [])])), none, []⟩, ⟨(some 9), 11, .mv (.c (.i .i64 0)), none, []⟩])
  (.seq (.ops [⟨(some 15), 17, .bslice 1 0 [(.i .i64 0)] [], none, []⟩, ⟨(some 10), 12, .mv (.t 15), none, []⟩])
  (.seq (.seq (.ops [⟨(some 11), 13, .mv (.c (.i .i64 0)), none, []⟩])
  (.block 0 (.loop (.seq (.seq (.ops [⟨(some 16), 18, .mv (.t 11), none, []⟩, ⟨(some 17), 19, .mv (.t 3), none, []⟩, ⟨(some 18), 20, .len false (.t 17), none, []⟩, ⟨(some 19), 21, .bin .lss (.t 16) (.t 18), none, []⟩])
  (.cond (.t 19)
  .skip
  (.exit 0)))
  (.seq (.block 1 (.ops [⟨(some 22), 24, .mv (.t 10), none, []⟩, ⟨(some 23), 25, .mv (.t 3), none, []⟩, ⟨(some 24), 26, .mv (.t 11), none, []⟩, ⟨(some 25), 27, .iaddr 5 (.t 23) (.t 24), none, []⟩, ⟨(some 26), 28, .faddr 0 1 (.t 25), none, []⟩, ⟨(some 27), 29, .load false 1 (.t 26), none, []⟩, ⟨(some 28), 30, .bslice 1 1 [(.i .i64 0)] [(0, (.t 27))], none, []⟩, ⟨(some 29), 31, .app 1 8 (.t 22) (.t 28), none, []⟩, ⟨(some 10), 12, .mv (.t 29), none, []⟩]))
  (.ops [⟨(some 20), 22, .mv (.t 11), none, []⟩, ⟨(some 21), 23, .bin .add (.t 20) (.c (.i .i64 1)), none, []⟩, ⟨(some 11), 13, .mv (.t 21), none, []⟩]))))))
  (.seq (.ops [⟨(some 31), 33, .load true 4 (.t 4), none, []⟩, ⟨(some 32), 34, .mv (.t 10), none, []⟩, ⟨(some 33), 35, .call 126 [((.t 31), 0), ((.t 32), 0)], none, []⟩, ⟨(some 30), 32, .mv (.t 33), none, []⟩, ⟨(some 34), 36, .ext 0 (.t 30), none, []⟩, ⟨(some 35), 37, .ext 1 (.t 30), none, []⟩, ⟨(some 12), 14, .box 4 (.c (.ag [(.sl true 1 []), (.sl true 1 []), (.sl true 3 []), (.sl true 4 [])])), none, []⟩, ⟨none, 1006007, .store 4 (.t 12) (.t 34), none, []⟩, ⟨(some 13), 15, .mv (.t 35), none, []⟩])
  (.seq (.seq (.ops [⟨(some 36), 38, .mv (.t 13), none, []⟩, ⟨(some 37), 39, .bin .lss (.t 36) (.c (.i .i64 0)), none, []⟩])
  (.cond (.t 37)
  (.seq (.ops [⟨(some 38), 40, .load true 4 (.t 4), none, []⟩, ⟨none, 1008001, .store 4 (.t 8) (.t 38), none, []⟩, ⟨(some 9), 11, .mv (.c (.i .i64 3)), none, []⟩])
  .ret)
  .skip))
  (.seq (.draw [⟨(some 39), 41, .faddr 2 1 (.t 12), none, []⟩, ⟨(some 40), 42, .load false 1 (.t 39), none, []⟩, ⟨(some 41), 43, .mv (.t 13), none, []⟩, ⟨(some 42), 44, .faddr 2 1 (.t 12), none, []⟩, ⟨(some 43), 45, .load false 1 (.t 42), none, []⟩, ⟨(some 44), 46, .mv (.t 13), none, []⟩, ⟨(some 45), 47, .iaddr 3 (.t 43) (.t 44), none, []⟩, ⟨(some 46), 48, .faddr 1 1 (.t 45), none, []⟩, ⟨(some 47), 49, .load false 1 (.t 46), none, []⟩, ⟨(some 48), 50, .faddr 2 1 (.t 12), none, []⟩, ⟨(some 49), 51, .load false 1 (.t 48), none, []⟩, ⟨(some 50), 52, .mv (.t 1), none, []⟩, ⟨(some 51), 53, .iaddr 3 (.t 49) (.t 50), none, []⟩, ⟨(some 52), 54, .faddr 1 1 (.t 51), none, []⟩, ⟨(some 53), 55, .load false 1 (.t 52), none, []⟩, ⟨(some 54), 56, .mv (.t 2), none, []⟩, ⟨(some 55), 57, .iaddr 2 (.t 53) (.t 54), none, []⟩, ⟨(some 56), 58, .load true 2 (.t 55), none, []⟩, ⟨(some 57), 59, .bslice 2 1 [(.i .i64 0), (.i .i64 0)] [(0, (.t 56))], none, [0, 1, 2, 3, 4, 5, 6, 7, 8]⟩, ⟨(some 58), 60, .app 2 16 (.t 47) (.t 57), none, [0, 1, 2]⟩, ⟨(some 59), 61, .iaddr 3 (.t 40) (.t 41), none, []⟩, ⟨(some 60), 62, .faddr 1 1 (.t 59), none, []⟩, ⟨none, 1009022, .store 1 (.t 60) (.t 58), none, []⟩])
  (.seq (.seq (.ops [⟨(some 14), 16, .mv (.c (.i .i64 0)), none, []⟩])
  (.block 2 (.loop (.seq (.seq (.ops [⟨(some 61), 63, .mv (.t 14), none, []⟩, ⟨(some 62), 64, .mv (.t 3), none, []⟩, ⟨(some 63), 65, .len false (.t 62), none, []⟩, ⟨(some 64), 66, .bin .lss (.t 61) (.t 63), none, []⟩])
  (.cond (.t 64)
  .skip
  (.exit 2)))
  (.seq (.block 3 (.draw [⟨(some 67), 69, .faddr 2 1 (.t 12), none, []⟩, ⟨(some 68), 70, .load false 1 (.t 67), none, []⟩, ⟨(some 69), 71, .mv (.t 13), none, []⟩, ⟨(some 70), 72, .iaddr 3 (.t 68) (.t 69), none, []⟩, ⟨(some 71), 73, .faddr 2 1 (.t 70), none, []⟩, ⟨(some 72), 74, .load false 1 (.t 71), none, []⟩, ⟨(some 73), 75, .mv (.t 14), none, []⟩, ⟨(some 74), 76, .faddr 2 1 (.t 12), none, []⟩, ⟨(some 75), 77, .load false 1 (.t 74), none, []⟩, ⟨(some 76), 78, .mv (.t 13), none, []⟩, ⟨(some 77), 79, .iaddr 3 (.t 75) (.t 76), none, []⟩, ⟨(some 78), 80, .faddr 2 1 (.t 77), none, []⟩, ⟨(some 79), 81, .load false 1 (.t 78), none, []⟩, ⟨(some 80), 82, .mv (.t 14), none, []⟩, ⟨(some 81), 83, .iaddr 1 (.t 79) (.t 80), none, []⟩, ⟨(some 82), 84, .load false 1 (.t 81), none, []⟩, ⟨(some 83), 85, .mv (.t 3), none, []⟩, ⟨(some 84), 86, .mv (.t 14), none, []⟩, ⟨(some 85), 87, .iaddr 5 (.t 83) (.t 84), none, []⟩, ⟨(some 86), 88, .faddr 1 4 (.t 85), none, []⟩, ⟨(some 87), 89, .load true 4 (.t 86), none, []⟩, ⟨(some 88), 90, .bslice 4 1 [(.i .i64 0), (.i .i64 0), (.f 0), (.f 0)] [(0, (.t 87))], none, [0, 1, 2, 3, 4, 5, 6, 7, 8, 9, 10, 11, 12, 13, 14, 15]⟩, ⟨(some 89), 91, .app 4 32 (.t 82) (.t 88), none, [0, 1, 2, 3, 4, 5, 6]⟩, ⟨(some 90), 92, .iaddr 1 (.t 72) (.t 73), none, []⟩, ⟨none, 1013024, .store 1 (.t 90) (.t 89), none, []⟩]))
  (.ops [⟨(some 65), 67, .mv (.t 14), none, []⟩, ⟨(some 66), 68, .bin .add (.t 65) (.c (.i .i64 1)), none, []⟩, ⟨(some 14), 16, .mv (.t 66), none, []⟩]))))))
  (.seq (.ops [⟨(some 91), 93, .load true 4 (.t 12), none, []⟩, ⟨(some 92), 94, .mv (.t 1), none, []⟩, ⟨(some 93), 95, .mv (.t 2), none, []⟩, ⟨(some 94), 96, .call 69 [((.t 91), 0), ((.t 92), 0), ((.t 93), 0)], none, []⟩, ⟨none, 1014004, .store 4 (.t 8) (.t 94), none, []⟩, ⟨(some 9), 11, .mv (.c (.i .i64 0)), none, []⟩])
  .ret))))))))
theorem k100 : compCode Tryz.prog Tryz.f100.ntmps Tryz.f100.body.get! = some c100 := by kernel_rfl
theorem r100 : resTmps Tryz.prog Tryz.f100.results.toList = some [.cell 8 true 4, .tmp 9] := by kernel_rfl
def nilVal : ValP := (0, 0, 0, 0)
def rowL (t : TableP) (k : Nat) : List CellP := List.zipWith (fun c vs => (c, vs.getD k nilVal)) t.1 t.2.2
theorem rowL_len {t : TableP} {k : Nat} (h : t.2.2.length = t.1.length) : (rowL t k).length = t.1.length := by simp [rowL, h]
theorem rowL_get {t : TableP} {k j : Nat} {x : Int} {vs : List ValP} {v : ValP} (h1 : t.1[j]? = some x) (h2 : t.2.2[j]? = some vs) (h3 : vs[k]? = some v) : (rowL t k)[j]? = some (x, v) := by
  simp [rowL, List.getElem?_zipWith, h1, h2, h3]
set_option maxRecDepth 100000 in
theorem w99 (g f : List Int) (ts : List TableP) (rs : List ValP) (i k : Nat) (t : TableP) (hl : ts.length ≤ 2^36) (ht : ts[i]? = some t) (hc : t.1.length ≤ 2^36) (hs : t.2.2.length = t.1.length) (hv : ∀ v ∈ t.2.2, v.length = t.2.1.length) (hk : k < t.2.1.length) : Contract Tryz.prog false 99 [.ro, .ro, .ro] [worldR g f ts rs, .i .i64 i, .i .i64 k] [.sl true 5 ((rowL t k).map clT)] [] := by
  refine mk_contract [] Tryz.func99 (c := Tryz.f99.body.get!) (by kernel_rfl) k99 r99 (of_decide_eq_true rfl) fun _ => ?_
  have hil := (List.getElem?_eq_some_iff.1 ht).1
  have hrl := rowL_len (k := k) hs
  unfold c99; simp
  refine twp_forR t.1.length (fun j s => s.t 1 = .i .i64 i ∧ s.t 2 = .i .i64 k ∧ s.t 3 = .pt [(5, 0)] 0 0 ∧ s.t 7 = .rf [(47, 0)] 0 j ∧ s.t 8 = .i .i64 j ∧ s.H = lk [(1, []), (5, [.po true [.sl false 1 (g.map iT), .sl false 1 (f.map iT), .sl false 3 (ts.map tbT), .sl false 4 (rs.map vT)]]), (47, [.sl true 5 (((rowL t k).take j).map clT)])]) [46] [(11, 47)] (by simp) (by simp) ?_ ?_
  · simp
  · rintro j s hj ⟨q1, q2, q3, q7, q8, qH⟩
    rw [nf_of qH]
    simp [q1, q2, q3, q7, q8]
    have hmin : min j (rowL t k).length = j := by omega
    simp [ht]
    refine ⟨fun hlt => ?_, fun hge => ?_⟩
    · have hw : IntKind.i64.wrap (j + 1) = j + 1 := wrap_id (by omega) (by omega)
      obtain ⟨x, hx⟩ := get_some hlt
      obtain ⟨vs, hvs⟩ : ∃ vs, t.2.2[j]? = some vs := get_some (by omega)
      have hvl := hv vs (List.mem_of_getElem? hvs)
      obtain ⟨v, hvv⟩ : ∃ v, vs[k]? = some v := get_some (by omega)
      have hgt := rowL_get hx hvs hvv
      simp [hx, hvs, hvv, ht, hw, q1, q2, q3, q7, q8, hmin, mapsnoc hgt]
      omega
    · obtain rfl : j = t.1.length := by omega
      have hd : List.take t.fst.length (List.map clT (rowL t k)) = List.map clT (rowL t k) := List.take_of_length_le (by simp; omega)
      simp [q1, q2, q3, q7, q8, hd]
theorem tabIx_at {ts : List TableP} {cols : List Int} (h : 0 ≤ tabIx ts cols) : ∃ (j : Nat) (t : TableP), tabIx ts cols = j ∧ ts[j]? = some t ∧ t.1 = cols := by
  unfold tabIx idxP at h ⊢
  split at h
  · rename_i j hj
    rw [List.findIdx?_eq_some_iff_getElem] at hj
    obtain ⟨hlt, hq, -⟩ := hj
    refine ⟨j, ts[j], rfl, List.getElem?_eq_getElem hlt, by simpa [isT] using hq⟩
  · omega
def isTk {α : Type} (M : List α) (j : Nat) (Q : List α) : Prop := Q = M.take j
theorem isTk.snoc {α : Type} {M Q : List α} {j : Nat} {x : α} (h : isTk M j Q) (hx : M[j]? = some x) : isTk M (j + 1) (Q ++ [x]) := by
  unfold isTk at h ⊢
  rw [h, take_snoc hx]
def colsOf (L : List CellP) : List Int := L.map fun x => x.1
def joinT (t : TableP) (e : Int × Int) (L : List CellP) : TableP := (t.1, t.2.1 ++ [e], List.zipWith (fun vs x => vs ++ [x.2]) t.2.2 L)
def zipUp (C : List (List ValP)) (L : List CellP) (j : Nat) : List (List ValP) := List.zipWith (fun vs x => vs ++ [x.2]) (C.take j) (L.take j)
theorem zipUp_succ {C : List (List ValP)} {L : List CellP} {j : Nat} {vs : List ValP} {x : CellP} (h1 : C[j]? = some vs) (h2 : L[j]? = some x) : zipUp C L (j + 1) = zipUp C L j ++ [vs ++ [x.2]] := by
  have l1 := (List.getElem?_eq_some_iff.1 h1).1
  have l2 := (List.getElem?_eq_some_iff.1 h2).1
  unfold zipUp
  rw [take_snoc h1, take_snoc h2, List.zipWith_append (by simp; omega)]
  rfl
theorem zipUp_all {C : List (List ValP)} {L : List CellP} (h : C.length = L.length) : zipUp C L L.length = List.zipWith (fun vs x => vs ++ [x.2]) C L := by
  unfold zipUp
  rw [List.take_of_length_le (by omega), List.take_of_length_le (Nat.le_refl _)]
def isZip (C : List (List ValP)) (L : List CellP) (j : Nat) (Z : List (List ValP)) : Prop := Z = zipUp C L j
def leaveAt (ts : List TableP) (i k : Nat) : List TableP := ts.modify i fun t => leaveT t k
theorem get_mid_ne {α : Type} {A B : List α} {i : Nat} (h : i ≠ A.length) (x y : α) : (A ++ x :: B)[i]? = (A ++ y :: B)[i]? := by
  rcases Nat.lt_or_gt_of_ne h with h | h
  · rw [List.getElem?_append_left h, List.getElem?_append_left h]
  · rw [List.getElem?_append_right (by omega), List.getElem?_append_right (by omega)]
    obtain ⟨m, hm⟩ : ∃ m, i - A.length = m + 1 := ⟨i - A.length - 1, by omega⟩
    rw [hm]; rfl
theorem leaveAt_mid {A B : List TableP} {t : TableP} {k : Nat} : leaveAt (A ++ t :: B) A.length k = A ++ leaveT t k :: B := modify_mid rfl
def moveTs (ts : List TableP) (i k : Nat) (e : Int × Int) (L : List CellP) : List TableP :=
  leaveAt ((tabW ts (colsOf L)).1.modify (tabW ts (colsOf L)).2 fun t => joinT t e L) i k
set_option maxHeartbeats 4000000 in
set_option maxRecDepth 100000 in
theorem w100 (g f : List Int) (ts : List TableP) (rs : List ValP) (i k : Nat) (L : List CellP) (t : TableP) (e : Int × Int) (hok : ∀ t ∈ ts, t.1.length ≤ 2^36) (hl : ts.length ≤ 2^30) (hL : L.length ≤ 2^36) (hn : ¬ fullT ts (colsOf L)) (ht : ts[i]? = some t) (he : t.2.1[k]? = some e) (hne : t.1 ≠ colsOf L) (hto : ∀ t ∈ ts, t.2.1.length ≤ 2^36) (hC : ∀ t ∈ ts, t.2.2.length = t.1.length) (hv : ∀ t ∈ ts, ∀ v ∈ t.2.2, v.length = t.2.1.length) : Contract Tryz.prog false 100 [.own, .ro, .ro, .ro] [worldO g f ts rs, .i .i64 i, .i .i64 k, .sl false 5 (L.map clT)] [worldO g f (moveTs ts i k e L) rs, .i .i64 0] [none, none, none, none] := by
  refine mk_contract [none, none, none, none] Tryz.func100 (c := Tryz.f100.body.get!) (by kernel_rfl) k100 r100 (of_decide_eq_true rfl) fun _ => ?_
  have hcl : (colsOf L).length = L.length := by simp [colsOf]
  have hT := w126 g f ts rs (colsOf L) hok (by omega) (by omega) hn
  obtain ⟨A, B, T2, e1, e2, e3, e4, e5, e6, e7, e8⟩ : ∃ (A B : List TableP) (T2 : TableP), (tabW ts (colsOf L)).1 = A ++ T2 :: B ∧ (tabW ts (colsOf L)).2 = A.length ∧ T2.1 = colsOf L ∧ (A ++ T2 :: B)[i]? = some t ∧ i ≠ A.length ∧ T2.2.2.length = L.length ∧ T2.2.1.length ≤ 2^36 ∧ (∀ v ∈ T2.2.2, v.length = T2.2.1.length) ∧ (A.length ≤ 2^30 ∧ B.length ≤ 2^30) := by
    unfold tabW
    by_cases hix : 0 ≤ tabIx ts (colsOf L)
    · rw [if_pos hix]
      obtain ⟨j, T2, h1, h2, h3⟩ : ∃ (j : Nat) (T2 : TableP), tabIx ts (colsOf L) = j ∧ ts[j]? = some T2 ∧ T2.1 = colsOf L := tabIx_at hix
      have hm := List.mem_of_getElem? h2
      obtain ⟨s1, s2⟩ := split_at h2
      have hij : i ≠ j := by
        rintro rfl
        rw [ht] at h2; cases h2
        exact hne h3
      have hjl := (List.getElem?_eq_some_iff.1 h2).1
      refine ⟨ts.take j, ts.drop (j + 1), T2, s1, by rw [s2, h1]; rfl, h3, by rw [← s1]; exact ht, by rw [s2]; exact hij, by rw [hC T2 hm, h3, hcl], hto T2 hm, hv T2 hm, by simp; omega, by simp; omega⟩
    · rw [if_neg hix]
      have hil := (List.getElem?_eq_some_iff.1 ht).1
      refine ⟨ts, [], newT (colsOf L), rfl, rfl, rfl, ?_, by omega, by simp [newT, hcl], by simp [newT], ?_, hl, by simp⟩
      · rw [List.getElem?_append_left hil]; exact ht
      · intro v hv; simp [newT] at hv; rw [hv.2]; rfl
  obtain ⟨T21, T22, T23⟩ := T2
  simp only at e1 e2 e3 e4 e5 e6 e7 e8
  subst e3
  rw [e1, e2] at hT
  have hM : moveTs ts i k e L = leaveAt (A ++ joinT (colsOf L, T22, T23) e L :: B) i k := by
    unfold moveTs
    rw [e1, e2, modify_mid rfl]
  rw [hM]
  clear hM e1 e2
  obtain ⟨TS, hTS⟩ : ∃ TS, TS = leaveAt (A ++ joinT (colsOf L, T22, T23) e L :: B) i k := ⟨_, rfl⟩
  rw [← hTS]
  have hti : (A.map tbO ++ [.sl true 1 ((colsOf L).map iT), .sl true 2 (T22.map eT), .sl true 1 (T23.map cvO)] :: B.map tbO)[i]? = some (tbO t) := by
    rw [show (A.map tbO ++ [.sl true 1 ((colsOf L).map iT), .sl true 2 (T22.map eT), .sl true 1 (T23.map cvO)] :: B.map tbO) = (A ++ (colsOf L, T22, T23) :: B).map tbO by simp, List.getElem?_map, e4]
    rfl
  unfold c100; simp
  refine twp_forR L.length (fun j s => ∃ Q : List Int, isTk (colsOf L) j Q ∧ Q.length = j ∧ s.t 1 = .i .i64 i ∧ s.t 2 = .i .i64 k ∧ s.t 3 = .sl false 5 (L.map clT) ∧ s.t 4 = .pt [(6, 0)] 0 0 ∧ s.t 8 = .pt [(10, 0)] 0 0 ∧ s.t 10 = .rf [(31, 0)] 0 Q.length ∧ s.t 11 = .i .i64 j ∧ s.H = lk [(1, [.junk, .junk, .junk, .junk]), (6, [.po true [.sl true 1 (g.map iT), .sl true 1 (f.map iT), .sl true 3 (ts.map tbO), .sl true 4 (rs.map vT)]]), (10, [.po true [.sl true 1 [], .sl true 1 [], .sl true 3 [], .sl true 4 []]]), (31, [.sl true 1 (Q.map iT)])]) [30] [(17, 31)] (by simp) (by simp) ?_ ?_
  · refine ⟨[], rfl, rfl, ?_⟩
    simp
  · rintro j s hj ⟨Q, hQ, hQl, q1, q2, q3, q4, q8, q10, q11, qH⟩
    rw [nf_of qH]
    have hw : IntKind.i64.wrap ((j : Int) + 1) = j + 1 := wrap_id (by omega) (by omega)
    cases hb9 : decide (j < L.length)
    rotate_left
    · have hlt := of_decide_eq_true hb9
      obtain ⟨x, hx⟩ := get_some hlt
      have hx2 : (colsOf L)[j]? = some x.1 := by simp [colsOf, hx]
      simp [q1, q2, q3, q4, q8, q10, q11, hb9, hx, hw]
      refine ⟨by omega, hlt, Q ++ [x.1], hQ.snoc hx2, by simp [hQl], ?_⟩
      simp
    · have hge := of_decide_eq_false hb9
      obtain rfl : j = L.length := by omega
      have hQ2 : Q = colsOf L := hQ.trans (List.take_of_length_le (by omega))
      subst hQ2
      simp [q1, q2, q3, q4, q8, q10, q11, hb9]
      refine callW_ms [.own, .ro] ?_
      simp
      refine callX_of hT (by simp) ?_
      have hA0 : ¬ ((A.length : Int) < 0) := by omega
      simp [q1, q2, q3, q4, q8, q10, q11, hti, he, hA0, e5, Ne.symm e5]
      have hil : i < A.length + (B.length + 1) := by have := (List.getElem?_eq_some_iff.1 e4).1; simpa using this
      have hkl : k < t.2.1.length := (List.getElem?_eq_some_iff.1 he).1
      obtain ⟨e8, e9, e10⟩ := e8
      refine ⟨by omega, by omega, hkl, by omega, by omega, ?_⟩
      obtain ⟨R, hR⟩ : ∃ R, R = T22 ++ [e] := ⟨_, rfl⟩
      have eR : List.map eT T22 ++ [[TV.i .i64 e.1, TV.i .i64 e.2]] = R.map eT := by rw [hR]; simp
      rw [eR]
      have htlen : t.2.1.length ≤ 2^36 ∧ t.2.2.length ≤ 2^36 ∧ ∀ v ∈ t.2.2, v.length = t.2.1.length := by
        have hm := List.mem_of_getElem? ht
        exact ⟨hto t hm, by rw [hC t hm]; exact hok t hm, hv t hm⟩
      have htm : t ∈ A ++ (colsOf L, T22, T23) :: B := List.mem_of_getElem? e4
      clear hti hT hQ hQl
      refine twp_for L.length (fun j s => ∃ Z : List (List ValP), isZip T23 L j Z ∧ Z.length = j ∧ s.t 1 = .i .i64 i ∧ s.t 2 = .i .i64 k ∧ s.t 3 = .sl false 5 (L.map clT) ∧ s.t 8 = .pt [(10, 0)] 0 0 ∧ s.t 12 = .pt [(14, 0)] 0 0 ∧ s.t 13 = .i .i64 A.length ∧ s.t 14 = .i .i64 j ∧ s.H = lk [(1, [.junk, .junk, .junk, .junk]), (6, [.po true [.junk, .junk, .junk, .junk]]), (10, [.po true [.sl true 1 [], .sl true 1 [], .sl true 3 [], .sl true 4 []]]), (14, [.po true [.sl true 1 (g.map iT), .sl true 1 (f.map iT), .sl true 3 (A.map tbO ++ [.sl true 1 ((colsOf L).map iT), .sl true 2 (R.map eT), .sl true 1 (Z.map cvO ++ (T23.map cvO).drop j)] :: B.map tbO), .sl true 4 (rs.map vT)]])]) [31, 35, 59, 60, 90, 91] (by simp) ?_ ?_
      · refine ⟨[], rfl, rfl, ?_⟩
        simp [q1, q2, q3, q4, q8, q10, q11]
      · rintro j s hj ⟨Z, hZ, hZl, q1, q2, q3, q8, q12, q13, q14, qH⟩
        rw [nf_of qH]
        have hw : IntKind.i64.wrap ((j : Int) + 1) = j + 1 := wrap_id (by omega) (by omega)
        cases hb9 : decide (j < L.length)
        · have hge := of_decide_eq_false hb9
          obtain rfl : j = L.length := by omega
          have hd : (T23.map cvO).drop L.length = [] := List.drop_eq_nil_of_le (by simp; omega)
          have hZ2 : Z = List.zipWith (fun vs x => vs ++ [x.2]) T23 L := Eq.trans hZ (zipUp_all e6)
          obtain ⟨ts2, hts2⟩ : ∃ ts2, ts2 = A ++ (colsOf L, R, Z) :: B := ⟨_, rfl⟩
          have hti2 : ts2[i]? = some t := by rw [hts2, ← get_mid_ne e5 (colsOf L, T22, T23) (colsOf L, R, Z)]; exact e4
          have hTS2 : TS = leaveAt ts2 i k := by rw [hTS, hts2, hR, hZ2]; rfl
          obtain ⟨s1, s2⟩ := split_at hti2
          have hla : leaveAt ts2 i k = ts2.take i ++ leaveT t k :: ts2.drop (i + 1) := by
            have h1 := leaveAt_mid (A := ts2.take i) (B := ts2.drop (i + 1)) (t := t) (k := k)
            rw [← s1, s2] at h1
            exact h1
          have hl2 : ts2.length = A.length + (B.length + 1) := by rw [hts2]; simp
          have hLv := w69 g f (ts2.take i) (ts2.drop (i + 1)) t rs k (by simp; omega) (by simp; omega) hkl htlen.1 htlen.2.1 htlen.2.2
          rw [← s1, s2, ← hla, ← hTS2, hts2] at hLv
          simp only [List.map_append, List.map_cons, tbO, worldO] at hLv
          simp [q1, q2, q3, q8, q12, q13, q14, hb9, hd]
          refine callW_ms [.own, .ro, .ro] ?_
          simp
          refine callX_of hLv (by simp) ?_
          simp [q8]
        · have hlt := of_decide_eq_true hb9
          obtain ⟨x, hx⟩ := get_some hlt
          obtain ⟨vs, hvs⟩ : ∃ vs, T23[j]? = some vs := get_some (by omega)
          have hvl := e8 vs (List.mem_of_getElem? hvs)
          simp [q1, q2, q3, q8, q12, q13, q14, hb9, hx, hw, drop_at hvs, hZl]
          refine ⟨by omega, by omega, by omega, by omega, hlt, Z ++ [vs ++ [x.2]], ?_, by simp [hZl], ?_⟩
          · unfold isZip at hZ ⊢
            rw [hZ, zipUp_succ hvs hx]
          · simp
end Go.Proofs.YtehmdblkkpdmoaaGreatT


namespace Go.Proofs.YtehmdblkkpdmoaaGreatT
set_option linter.unusedVariables false
set_option linter.unusedSimpArgs false
open Go
def insC (c : CellP) : List CellP → List CellP
  | [] => [c]
  | x :: xs => if c.1 < x.1 then c :: x :: xs else x :: insC c xs
def noGt (c : Int) (A : List CellP) : Prop := ∀ y ∈ A, ¬ c < y.1
def someGt (c : Int) (A : List CellP) : Prop := ∃ y ∈ A, c < y.1
theorem insC_all {c : CellP} {B : List CellP} : ∀ {A : List CellP}, noGt c.1 A → insC c (A ++ B) = A ++ insC c B
  | [], _ => rfl
  | a :: A, h => by
    simp only [List.cons_append, insC]
    rw [if_neg (h a (by simp)), insC_all fun y hy => h y (by simp [hy])]
theorem insC_len (c : CellP) : ∀ A : List CellP, (insC c A).length = A.length + 1
  | [] => rfl
  | a :: A => by
    simp only [insC]
    split
    · rfl
    · simp [insC_len c A]
def putUp (c : CellP) (M : List CellP) (j : Nat) (Q : List CellP) (dn : Bool) : Prop := (dn = false ∧ noGt c.1 (M.take j) ∧ Q = M.take j) ∨ (dn = true ∧ someGt c.1 (M.take j) ∧ Q = insC c (M.take j))
theorem putUp.zero (c : CellP) (M : List CellP) : putUp c M 0 [] false := .inl ⟨rfl, fun y hy => by simp at hy, rfl⟩
theorem putUp.len {c : CellP} {M Q : List CellP} {j : Nat} {dn : Bool} (h : putUp c M j Q dn) : Q.length ≤ M.length + 1 := by
  rcases h with ⟨_, _, rfl⟩ | ⟨_, _, rfl⟩
  · simp; omega
  · rw [insC_len]; simp; omega
theorem putUp.last {c : CellP} {M Q : List CellP} (h : putUp c M M.length Q false) : Q ++ [c] = insC c M := by
  rcases h with ⟨_, h1, h⟩ | ⟨h, _⟩
  · rw [List.take_length] at h h1
    rw [h]
    have := insC_all (B := []) h1
    rw [List.append_nil] at this
    rw [this]; rfl
  · cases h
instance (ts : List TableP) (cols : List Int) : Decidable (fullT ts cols) := by unfold fullT; infer_instance
theorem W100f (g f : List Int) (ts : List TableP) (rs : List ValP) (i k : Nat) (L : List CellP) (hok : ∀ t ∈ ts, t.1.length ≤ 2^36) (hl : ts.length ≤ 2^30) (hL : L.length ≤ 2^36) (hn : fullT ts (colsOf L)) : Contract Tryz.prog false 100 [.own, .ro, .ro, .ro] [worldO g f ts rs, .i .i64 i, .i .i64 k, .sl false 5 (L.map clT)] [worldO g f ts rs, .i .i64 3] [none, none, none, none] := by
  refine mk_contract [none, none, none, none] Tryz.func100 (c := Tryz.f100.body.get!) (by kernel_rfl) k100 r100 (of_decide_eq_true rfl) fun _ => ?_
  have hcl : (colsOf L).length = L.length := by simp [colsOf]
  have hT := W126f g f ts rs (colsOf L) hok (by omega) (by omega) hn
  unfold c100; simp
  refine twp_forR L.length (fun j s => ∃ Q : List Int, isTk (colsOf L) j Q ∧ Q.length = j ∧ s.t 1 = .i .i64 i ∧ s.t 2 = .i .i64 k ∧ s.t 3 = .sl false 5 (L.map clT) ∧ s.t 4 = .pt [(6, 0)] 0 0 ∧ s.t 8 = .pt [(10, 0)] 0 0 ∧ s.t 10 = .rf [(31, 0)] 0 Q.length ∧ s.t 11 = .i .i64 j ∧ s.H = lk [(1, [.junk, .junk, .junk, .junk]), (6, [.po true [.sl true 1 (g.map iT), .sl true 1 (f.map iT), .sl true 3 (ts.map tbO), .sl true 4 (rs.map vT)]]), (10, [.po true [.sl true 1 [], .sl true 1 [], .sl true 3 [], .sl true 4 []]]), (31, [.sl true 1 (Q.map iT)])]) [30] [(17, 31)] (by simp) (by simp) ?_ ?_
  · refine ⟨[], rfl, rfl, ?_⟩
    simp
  · rintro j s hj ⟨Q, hQ, hQl, q1, q2, q3, q4, q8, q10, q11, qH⟩
    rw [nf_of qH]
    have hw : IntKind.i64.wrap ((j : Int) + 1) = j + 1 := wrap_id (by omega) (by omega)
    cases hb9 : decide (j < L.length)
    rotate_left
    · have hlt := of_decide_eq_true hb9
      obtain ⟨x, hx⟩ := get_some hlt
      have hx2 : (colsOf L)[j]? = some x.1 := by simp [colsOf, hx]
      simp [q1, q2, q3, q4, q8, q10, q11, hb9, hx, hw]
      refine ⟨by omega, hlt, Q ++ [x.1], hQ.snoc hx2, by simp [hQl], ?_⟩
      simp
    · have hge := of_decide_eq_false hb9
      obtain rfl : j = L.length := by omega
      have hQ2 : Q = colsOf L := hQ.trans (List.take_of_length_le (by omega))
      subst hQ2
      simp [q1, q2, q3, q4, q8, q10, q11, hb9]
      refine callW_ms [.ro, .ro] ?_
      simp
      refine callX_of hT (by simp) ?_
      simp [q1, q2, q3, q4, q8, q10, q11]
structure AtP (ts : List TableP) (i k : Nat) (t : TableP) (e : Int × Int) : Prop where
  ht : ts[i]? = some t
  he : t.2.1[k]? = some e
  hw : whereG e ts 0 = ((i : Int), (k : Int))
structure EvenP (ts : List TableP) : Prop where
  n : ts.length ≤ 2^30
  c : ∀ t ∈ ts, t.1.length ≤ 2^30
  r : ∀ t ∈ ts, t.2.1.length ≤ 2^36
  s : ∀ t ∈ ts, t.2.2.length = t.1.length
  v : ∀ t ∈ ts, ∀ v ∈ t.2.2, v.length = t.2.1.length
theorem EvenP.okT {ts : List TableP} (h : EvenP ts) : ∀ t ∈ ts, okT t := fun t ht =>
  ⟨by have := h.c t ht; omega, h.r t ht, by have := h.c t ht; rw [h.s t ht]; omega, fun v hv => by rw [h.v t ht v hv]; exact h.r t ht⟩
end Go.Proofs.YtehmdblkkpdmoaaGreatT


namespace Go.Proofs.YtehmdblkkpdmoaaGreatT
set_option linter.unusedVariables false
set_option linter.unusedSimpArgs false
open Go
end Go.Proofs.YtehmdblkkpdmoaaGreatT


namespace Go.Proofs.YtehmdblkkpdmoaaGreatT
set_option linter.unusedVariables false
set_option linter.unusedSimpArgs false
open Go
def c104 : TCode := (.seq (.ops [⟨(some 6), 8, .mv (.c (.sl true 5 [])), none, []⟩])
  (.seq (.ops [⟨(some 11), 13, .mv (.t 0), none, []⟩, ⟨(some 12), 14, .nilck (.t 11), none, []⟩, ⟨(some 13), 15, .faddr 2 1 (.t 12), none, []⟩, ⟨(some 14), 16, .load false 1 (.t 13), none, []⟩, ⟨(some 15), 17, .mv (.t 1), none, []⟩, ⟨(some 16), 18, .iaddr 3 (.t 14) (.t 15), none, []⟩, ⟨(some 7), 9, .mv (.t 16), none, []⟩])
  (.seq (.ops [⟨(some 17), 19, .bslice 5 0 [(.i .i64 0), (.i .i64 0), (.i .i64 0), (.f 0), (.f 0)] [], none, []⟩, ⟨(some 8), 10, .mv (.t 17), none, []⟩])
  (.seq (.seq (.ops [⟨(some 18), 20, .mv (.t 7), none, []⟩, ⟨(some 19), 21, .nilck (.t 18), none, []⟩, ⟨(some 20), 22, .faddr 0 1 (.t 19), none, []⟩, ⟨(some 21), 23, .load false 1 (.t 20), none, []⟩, ⟨(some 22), 24, .len false (.t 21), none, []⟩, ⟨(some 23), 25, .mv (.c (.i .i64 0)), none, []⟩])
  (.block 0 (.loop (.seq (.ops [⟨(some 24), 26, .bin .lss (.t 23) (.t 22), none, []⟩])
  (.seq (.cond (.t 24)
  .skip
  (.exit 0))
  (.seq (.block 1 (.seq (.ops [⟨(some 25), 27, .mv (.t 23), none, []⟩, ⟨(some 26), 28, .iaddr 1 (.t 21) (.t 23), none, []⟩, ⟨(some 27), 29, .load false 1 (.t 26), none, []⟩, ⟨(some 9), 11, .mv (.t 25), none, []⟩, ⟨(some 10), 12, .mv (.t 27), none, []⟩])
  (.ops [⟨(some 28), 30, .mv (.t 8), none, []⟩, ⟨(some 29), 31, .mv (.t 10), none, []⟩, ⟨(some 30), 32, .mv (.t 7), none, []⟩, ⟨(some 31), 33, .nilck (.t 30), none, []⟩, ⟨(some 32), 34, .faddr 2 1 (.t 31), none, []⟩, ⟨(some 33), 35, .load false 1 (.t 32), none, []⟩, ⟨(some 34), 36, .mv (.t 9), none, []⟩, ⟨(some 35), 37, .iaddr 1 (.t 33) (.t 34), none, []⟩, ⟨(some 36), 38, .load false 1 (.t 35), none, []⟩, ⟨(some 37), 39, .mv (.t 2), none, []⟩, ⟨(some 38), 40, .iaddr 4 (.t 36) (.t 37), none, []⟩, ⟨(some 39), 41, .load true 4 (.t 38), none, []⟩, ⟨(some 40), 42, .build [(.i .i64 0), (.i .i64 0), (.i .i64 0), (.f 0), (.f 0)] [(0, 1, (.t 29)), (1, 4, (.t 39))], none, []⟩, ⟨(some 41), 43, .bslice 5 1 [(.i .i64 0), (.i .i64 0), (.i .i64 0), (.f 0), (.f 0)] [(0, (.t 40))], none, []⟩, ⟨(some 42), 44, .app 5 40 (.t 28) (.t 41), none, []⟩, ⟨(some 8), 10, .mv (.t 42), none, []⟩])))
  (.ops [⟨(some 43), 45, .bin .add (.t 23) (.c (.i .i64 1)), none, []⟩, ⟨(some 23), 25, .mv (.t 43), none, []⟩])))))))
  (.seq (.ops [⟨(some 44), 46, .mv (.t 8), none, []⟩, ⟨(some 6), 8, .mv (.t 44), none, []⟩])
  .ret)))))
theorem k104 : compCode Tryz.prog Tryz.f104.ntmps Tryz.f104.body.get! = some c104 := by kernel_rfl
theorem r104 : resTmps Tryz.prog Tryz.f104.results.toList = some [.tmp 6] := by kernel_rfl
def c102 : TCode := (.seq (.ops [⟨(some 4), 6, .box 2 (.t 1), none, []⟩, ⟨(some 6), 8, .mv (.c (.b false)), none, []⟩])
  (.seq (.ops [⟨(some 14), 16, .bslice 1 0 [(.i .i64 0)] [], none, []⟩, ⟨(some 7), 9, .mv (.t 14), none, []⟩])
  (.seq (.seq (.ops [⟨(some 15), 17, .mv (.t 2), none, []⟩, ⟨(some 16), 18, .len false (.t 15), none, []⟩, ⟨(some 17), 19, .mv (.c (.i .i64 0)), none, []⟩])
  (.block 0 (.loop (.seq (.ops [⟨(some 18), 20, .bin .lss (.t 17) (.t 16), none, []⟩])
  (.seq (.cond (.t 18)
  .skip
  (.exit 0))
  (.seq (.block 1 (.seq (.ops [⟨(some 19), 21, .iaddr 5 (.t 15) (.t 17), none, []⟩, ⟨(some 20), 22, .load true 5 (.t 19), none, []⟩, ⟨(some 9), 11, .box 5 (.c (.ag [(.i .i64 0), (.i .i64 0), (.i .i64 0), (.f 0), (.f 0)])), none, []⟩, ⟨none, 1004003, .store 5 (.t 9) (.t 20), none, []⟩])
  (.ops [⟨(some 21), 23, .mv (.t 7), none, []⟩, ⟨(some 22), 24, .faddr 0 1 (.t 9), none, []⟩, ⟨(some 23), 25, .load false 1 (.t 22), none, []⟩, ⟨(some 24), 26, .bslice 1 1 [(.i .i64 0)] [(0, (.t 23))], none, []⟩, ⟨(some 25), 27, .app 1 8 (.t 21) (.t 24), none, []⟩, ⟨(some 7), 9, .mv (.t 25), none, []⟩])))
  (.ops [⟨(some 26), 28, .bin .add (.t 17) (.c (.i .i64 1)), none, []⟩, ⟨(some 17), 19, .mv (.t 26), none, []⟩])))))))
  (.seq (.ops [⟨(some 27), 29, .mv (.t 0), none, []⟩, ⟨(some 28), 30, .mv (.t 7), none, []⟩, ⟨(some 29), 31, .call 80 [((.t 27), 4), ((.t 28), 0)], none, []⟩, ⟨(some 10), 12, .mv (.t 29), none, []⟩])
  (.seq (.seq (.ops [⟨(some 30), 32, .mv (.t 10), none, []⟩, ⟨(some 31), 33, .bin .lss (.t 30) (.c (.i .i64 0)), none, []⟩])
  (.cond (.t 31)
  (.seq (.seq (.ops [⟨(some 32), 34, .mv (.t 0), none, []⟩, ⟨(some 33), 35, .nilck (.t 32), none, []⟩, ⟨(some 34), 36, .faddr 2 1 (.t 33), none, []⟩, ⟨(some 35), 37, .load false 1 (.t 34), none, []⟩, ⟨(some 36), 38, .len false (.t 35), none, []⟩, ⟨(some 37), 39, .bin .eql (.t 36) (.c (.i .i64 40)), none, []⟩])
  (.cond (.t 37)
  (.seq (.ops [⟨(some 6), 8, .mv (.c (.b false)), none, []⟩])
  .ret)
  .skip))
  (.seq (.ops [⟨(some 38), 40, .mv (.t 0), none, []⟩, ⟨(some 39), 41, .nilck (.t 38), none, []⟩, ⟨(some 40), 42, .faddr 2 1 (.t 39), none, []⟩, ⟨(some 41), 43, .load false 1 (.t 40), none, []⟩, ⟨(some 42), 44, .len false (.t 41), none, []⟩, ⟨(some 10), 12, .mv (.t 42), none, []⟩])
  (.draw [⟨(some 43), 45, .mv (.t 0), none, []⟩, ⟨(some 44), 46, .mv (.t 0), none, []⟩, ⟨(some 45), 47, .nilck (.t 44), none, []⟩, ⟨(some 46), 48, .faddr 2 1 (.t 45), none, []⟩, ⟨(some 47), 49, .load false 1 (.t 46), none, []⟩, ⟨(some 48), 50, .mv (.t 7), none, []⟩, ⟨(some 49), 51, .mv (.t 7), none, []⟩, ⟨(some 50), 52, .len false (.t 49), none, []⟩, ⟨(some 51), 53, .mkslice 1 24 [(.sl true 4 [])] (.t 50) (.t 50), none, [0, 1, 2, 3, 4, 5]⟩, ⟨(some 52), 54, .build [(.sl true 1 []), (.sl true 2 []), (.sl true 1 [])] [(0, 1, (.t 48)), (2, 1, (.t 51))], none, []⟩, ⟨(some 53), 55, .bslice 3 1 [(.sl true 1 []), (.sl true 2 []), (.sl true 1 [])] [(0, (.t 52))], none, [0, 1, 2, 3, 4]⟩, ⟨(some 54), 56, .app 3 72 (.t 47) (.t 53), none, [0]⟩, ⟨(some 55), 57, .nilck (.t 43), none, []⟩, ⟨(some 56), 58, .faddr 2 1 (.t 55), none, []⟩, ⟨none, 1012014, .store 1 (.t 56) (.t 54), none, []⟩])))
  .skip))
  (.seq (.ops [⟨(some 57), 59, .mv (.t 0), none, []⟩, ⟨(some 58), 60, .nilck (.t 57), none, []⟩, ⟨(some 59), 61, .faddr 2 1 (.t 58), none, []⟩, ⟨(some 60), 62, .load false 1 (.t 59), none, []⟩, ⟨(some 61), 63, .mv (.t 10), none, []⟩, ⟨(some 62), 64, .iaddr 3 (.t 60) (.t 61), none, []⟩, ⟨(some 11), 13, .mv (.t 62), none, []⟩])
  (.seq (.draw [⟨(some 63), 65, .mv (.t 11), none, []⟩, ⟨(some 64), 66, .mv (.t 11), none, []⟩, ⟨(some 65), 67, .nilck (.t 64), none, []⟩, ⟨(some 66), 68, .faddr 1 1 (.t 65), none, []⟩, ⟨(some 67), 69, .load false 1 (.t 66), none, []⟩, ⟨(some 68), 70, .load true 2 (.t 4), none, []⟩, ⟨(some 69), 71, .bslice 2 1 [(.i .i64 0), (.i .i64 0)] [(0, (.t 68))], none, [0, 1, 2, 3, 4]⟩, ⟨(some 70), 72, .app 2 16 (.t 67) (.t 69), none, [0]⟩, ⟨(some 71), 73, .nilck (.t 63), none, []⟩, ⟨(some 72), 74, .faddr 1 1 (.t 71), none, []⟩, ⟨none, 1014010, .store 1 (.t 72) (.t 70), none, []⟩])
  (.seq (.seq (.ops [⟨(some 73), 75, .mv (.t 2), none, []⟩, ⟨(some 74), 76, .len false (.t 73), none, []⟩, ⟨(some 75), 77, .mv (.c (.i .i64 0)), none, []⟩])
  (.block 2 (.loop (.seq (.ops [⟨(some 76), 78, .bin .lss (.t 75) (.t 74), none, []⟩])
  (.seq (.cond (.t 76)
  .skip
  (.exit 2))
  (.seq (.block 3 (.seq (.ops [⟨(some 77), 79, .mv (.t 75), none, []⟩, ⟨(some 78), 80, .iaddr 5 (.t 73) (.t 75), none, []⟩, ⟨(some 79), 81, .load true 5 (.t 78), none, []⟩, ⟨(some 13), 15, .box 5 (.c (.ag [(.i .i64 0), (.i .i64 0), (.i .i64 0), (.f 0), (.f 0)])), none, []⟩, ⟨(some 12), 14, .mv (.t 77), none, []⟩, ⟨none, 1017005, .store 5 (.t 13) (.t 79), none, []⟩])
  (.draw [⟨(some 80), 82, .mv (.t 11), none, []⟩, ⟨(some 81), 83, .nilck (.t 80), none, []⟩, ⟨(some 82), 84, .faddr 2 1 (.t 81), none, []⟩, ⟨(some 83), 85, .load false 1 (.t 82), none, []⟩, ⟨(some 84), 86, .mv (.t 12), none, []⟩, ⟨(some 85), 87, .mv (.t 11), none, []⟩, ⟨(some 86), 88, .nilck (.t 85), none, []⟩, ⟨(some 87), 89, .faddr 2 1 (.t 86), none, []⟩, ⟨(some 88), 90, .load false 1 (.t 87), none, []⟩, ⟨(some 89), 91, .mv (.t 12), none, []⟩, ⟨(some 90), 92, .iaddr 1 (.t 88) (.t 89), none, []⟩, ⟨(some 91), 93, .load false 1 (.t 90), none, []⟩, ⟨(some 92), 94, .faddr 1 4 (.t 13), none, []⟩, ⟨(some 93), 95, .load true 4 (.t 92), none, []⟩, ⟨(some 94), 96, .bslice 4 1 [(.i .i64 0), (.i .i64 0), (.f 0), (.f 0)] [(0, (.t 93))], none, [0, 1, 2, 3, 4, 5, 6, 7, 8, 9, 10, 11]⟩, ⟨(some 95), 97, .app 4 32 (.t 91) (.t 94), none, [0, 1, 2, 3, 4]⟩, ⟨(some 96), 98, .iaddr 1 (.t 83) (.t 84), none, []⟩, ⟨none, 1018017, .store 1 (.t 96) (.t 95), none, []⟩])))
  (.ops [⟨(some 97), 99, .bin .add (.t 75) (.c (.i .i64 1)), none, []⟩, ⟨(some 75), 77, .mv (.t 97), none, []⟩])))))))
  (.seq (.ops [⟨(some 6), 8, .mv (.c (.b true)), none, []⟩])
  .ret)))))))))
theorem k102 : compCode Tryz.prog Tryz.f102.ntmps Tryz.f102.body.get! = some c102 := by kernel_rfl
theorem r102 : resTmps Tryz.prog Tryz.f102.results.toList = some [.tmp 6] := by kernel_rfl
set_option maxRecDepth 100000 in
theorem w104 (g f : List Int) (ts : List TableP) (rs : List ValP) (i k : Nat) (t : TableP) (hl : ts.length ≤ 2^36) (ht : ts[i]? = some t) (hc : t.1.length ≤ 2^36) (hs : t.2.2.length = t.1.length) (hv : ∀ v ∈ t.2.2, v.length = t.2.1.length) (hk : k < t.2.1.length) : Contract Tryz.prog false 104 [.ro, .ro, .ro] [.po false [.sl false 1 (g.map iT), .sl false 1 (f.map iT), .sl false 3 (ts.map tbT), .sl false 4 (rs.map vT)], .i .i64 i, .i .i64 k] [.sl true 5 ((rowL t k).map clT)] [] := by
  refine mk_contract [] Tryz.func104 (c := Tryz.f104.body.get!) (by kernel_rfl) k104 r104 (of_decide_eq_true rfl) fun _ => ?_
  have hil := (List.getElem?_eq_some_iff.1 ht).1
  have hrl := rowL_len (k := k) hs
  unfold c104; simp [ht]
  refine twp_forR t.1.length (fun j s => s.t 2 = .i .i64 k ∧ s.t 7 = .po false (tbT t) ∧ s.t 8 = .rf [(44, 0)] 0 j ∧ s.t 21 = .sl false 1 (t.1.map iT) ∧ s.t 22 = .i .i64 t.1.length ∧ s.t 23 = .i .i64 j ∧ s.H = lk [(1, []), (44, [.sl true 5 (((rowL t k).take j).map clT)])]) [43] [(19, 44)] (by simp) (by simp) ?_ ?_
  · simp
  · rintro j s hj ⟨q2, q7, q8, q21, q22, q23, qH⟩
    rw [nf_of qH]
    simp [q2, q7, q8, q21, q22, q23]
    have hmin : min j (rowL t k).length = j := by omega
    refine ⟨fun hlt => ?_, fun hge => ?_⟩
    · have hw : IntKind.i64.wrap (j + 1) = j + 1 := wrap_id (by omega) (by omega)
      obtain ⟨x, hx⟩ := get_some hlt
      obtain ⟨vs, hvs⟩ : ∃ vs, t.2.2[j]? = some vs := get_some (by omega)
      have hvl := hv vs (List.mem_of_getElem? hvs)
      obtain ⟨v, hvv⟩ : ∃ v, vs[k]? = some v := get_some (by omega)
      have hgt := rowL_get hx hvs hvv
      simp [hx, hvs, hvv, hw, q2, q7, q8, q21, q22, q23, hmin, mapsnoc hgt]
      omega
    · obtain rfl : j = t.1.length := by omega
      have hd : List.take t.fst.length (List.map clT (rowL t k)) = List.map clT (rowL t k) := List.take_of_length_le (by simp; omega)
      simp [q2, q7, q8, q21, q22, q23, hd]
def joinTs (ts : List TableP) (e : Int × Int) (L : List CellP) : List TableP := (tabW ts (colsOf L)).1.modify (tabW ts (colsOf L)).2 fun t => joinT t e L
def fstJ : TCode → TCode
  | .seq a _ => a
  | c => c
def sndJ : TCode → TCode
  | .seq _ b => b
  | c => c
def restJ : TCode := sndJ (sndJ (sndJ (sndJ (sndJ c102))))
set_option maxRecDepth 100000 in
theorem c_restJ : c102 = .seq (fstJ c102) (.seq (fstJ (sndJ c102)) (.seq (fstJ (sndJ (sndJ c102))) (.seq (fstJ (sndJ (sndJ (sndJ c102)))) (.seq (fstJ (sndJ (sndJ (sndJ (sndJ c102))))) restJ)))) := rfl
set_option maxRecDepth 100000 in
set_option maxHeartbeats 4000000 in
theorem tailJ1 (g f : List Int) (A B : List TableP) (rs : List ValP) (L : List CellP) (e : Int × Int) (T22 : List (Int × Int)) (T23 : List (List ValP)) (hL : L.length ≤ 2^30) (e6 : T23.length = L.length) (e7 : T22.length ≤ 2^36) (e8 : ∀ v ∈ T23, v.length = T22.length) (e9 : A.length ≤ 2^30) (e10 : B.length ≤ 2^30) (TS : List TableP) (hTS : TS = A ++ joinT (colsOf L, T22, T23) e L :: B) (s : St) (q0 : s.t 0 = .pt [(1, 0)] 0 0) (q2 : s.t 2 = .sl false 5 (L.map clT)) (q4 : s.t 4 = .pt [(6, 0)] 0 0) (q10 : s.t 10 = .i .i64 A.length)
    (qH : s.H = lk [(1, [.po true [.sl true 1 (g.map iT), .sl true 1 (f.map iT), .sl true 3 (A.map tbO ++ [.sl true 1 ((colsOf L).map iT), .sl true 2 (T22.map eT), .sl true 1 (T23.map cvO)] :: B.map tbO), .sl true 4 (rs.map vT)]]), (6, [.po true [.i .i64 e.1, .i .i64 e.2]]), (27, [.sl true 1 ((colsOf L).map iT)])]) :
    twp Tryz.prog restJ (endW false [.b true] [some (.po true [.sl true 1 (g.map iT), .sl true 1 (f.map iT), .sl true 3 (TS.map tbO), .sl true 4 (rs.map vT)])] [some [(1, 0)]] [.tmp 6]) s := by
  obtain ⟨R, hR⟩ : ∃ R, R = T22 ++ [e] := ⟨_, rfl⟩
  have eR : List.map eT T22 ++ [[TV.i .i64 e.1, TV.i .i64 e.2]] = R.map eT := by rw [hR]; simp
  obtain ⟨W, hW⟩ : ∃ W, W = List.zipWith (fun vs x => vs ++ [x.2]) T23 L := ⟨_, rfl⟩
  have hJ : joinT (colsOf L, T22, T23) e L = (colsOf L, R, W) := by rw [hR, hW]; rfl
  rw [hJ] at hTS
  unfold restJ c102
  simp only [sndJ]
  rw [nf_of qH]
  simp [q0, q2, q4, q10]
  refine ⟨by omega, by omega, ?_⟩
  rw [eR]
  refine twp_for L.length (fun j s => ∃ Z : List (List ValP), isZip T23 L j Z ∧ Z.length = j ∧ s.t 11 = .pt [(1, 0), (0, 2)] A.length 0 ∧ s.t 73 = .sl false 5 (L.map clT) ∧ s.t 74 = .i .i64 L.length ∧ s.t 75 = .i .i64 j ∧ s.H = lk [(1, [.po true [.sl true 1 (g.map iT), .sl true 1 (f.map iT), .sl true 3 (A.map tbO ++ [.sl true 1 ((colsOf L).map iT), .sl true 2 (R.map eT), .sl true 1 (Z.map cvO ++ (T23.map cvO).drop j)] :: B.map tbO), .sl true 4 (rs.map vT)]]), (6, [.po true [.i .i64 e.1, .i .i64 e.2]])]) [13, 15, 27, 71, 72, 96, 97] (by simp) ?_ ?_
  · refine ⟨[], rfl, rfl, ?_⟩
    simp [q0, q2, q4, q10]
  · rintro j s hj ⟨Z, hZ, hZl, q11, q73, q74, q75, qH⟩
    rw [nf_of qH]
    have hw : IntKind.i64.wrap ((j : Int) + 1) = j + 1 := wrap_id (by omega) (by omega)
    cases hb9 : decide (j < L.length)
    · have hge := of_decide_eq_false hb9
      obtain rfl : j = L.length := by omega
      have hd : (T23.map cvO).drop L.length = [] := List.drop_eq_nil_of_le (by simp; omega)
      have hZ2 : Z = W := by rw [hW]; exact Eq.trans hZ (zipUp_all e6)
      subst hZ2
      simp [q11, q73, q74, q75, hb9, hd, hTS]
    · have hlt := of_decide_eq_true hb9
      obtain ⟨x, hx⟩ := get_some hlt
      obtain ⟨vs, hvs⟩ : ∃ vs, T23[j]? = some vs := get_some (by omega)
      have hvl := e8 vs (List.mem_of_getElem? hvs)
      simp [q11, q73, q74, q75, hb9, hx, hw, drop_at hvs, hZl]
      refine ⟨by omega, by omega, by omega, hlt, Z ++ [vs ++ [x.2]], ?_, by simp [hZl], ?_⟩
      · unfold isZip at hZ ⊢
        rw [hZ, zipUp_succ hvs hx]
      · simp
set_option maxRecDepth 100000 in
set_option maxHeartbeats 4000000 in
theorem tailJ2 (g f : List Int) (A B : List TableP) (rs : List ValP) (L : List CellP) (e : Int × Int) (T22 : List (Int × Int)) (T23 : List (List ValP)) (hL : L.length ≤ 2^30) (e6 : T23.length = L.length) (e7 : T22.length ≤ 2^36) (e8 : ∀ v ∈ T23, v.length = T22.length) (e9 : A.length ≤ 2^30) (e10 : B.length ≤ 2^30) (TS : List TableP) (hTS : TS = A ++ joinT (colsOf L, T22, T23) e L :: B) (s : St) (q0 : s.t 0 = .pt [(1, 0)] 0 0) (q2 : s.t 2 = .sl false 5 (L.map clT)) (q4 : s.t 4 = .pt [(6, 0)] 0 0) (q10 : s.t 10 = .i .i64 A.length)
    (qH : s.H = lk [(1, [.po true [.sl true 1 (g.map iT), .sl true 1 (f.map iT), .sl true 3 (A.map tbO ++ [.sl true 1 ((colsOf L).map iT), .sl true 2 (T22.map eT), .sl true 1 (T23.map cvO)] :: B.map tbO), .sl true 4 (rs.map vT)]]), (6, [.po true [.i .i64 e.1, .i .i64 e.2]]), (27, [.junk]), (53, [.junk]), (55, [.sl true 3 [[.junk, .junk, .junk]]]), (56, [.junk])]) :
    twp Tryz.prog restJ (endW false [.b true] [some (.po true [.sl true 1 (g.map iT), .sl true 1 (f.map iT), .sl true 3 (TS.map tbO), .sl true 4 (rs.map vT)])] [some [(1, 0)]] [.tmp 6]) s := by
  obtain ⟨R, hR⟩ : ∃ R, R = T22 ++ [e] := ⟨_, rfl⟩
  have eR : List.map eT T22 ++ [[TV.i .i64 e.1, TV.i .i64 e.2]] = R.map eT := by rw [hR]; simp
  obtain ⟨W, hW⟩ : ∃ W, W = List.zipWith (fun vs x => vs ++ [x.2]) T23 L := ⟨_, rfl⟩
  have hJ : joinT (colsOf L, T22, T23) e L = (colsOf L, R, W) := by rw [hR, hW]; rfl
  rw [hJ] at hTS
  unfold restJ c102
  simp only [sndJ]
  rw [nf_of qH]
  simp [q0, q2, q4, q10]
  refine ⟨by omega, by omega, ?_⟩
  rw [eR]
  refine twp_for L.length (fun j s => ∃ Z : List (List ValP), isZip T23 L j Z ∧ Z.length = j ∧ s.t 11 = .pt [(1, 0), (0, 2)] A.length 0 ∧ s.t 73 = .sl false 5 (L.map clT) ∧ s.t 74 = .i .i64 L.length ∧ s.t 75 = .i .i64 j ∧ s.H = lk [(1, [.po true [.sl true 1 (g.map iT), .sl true 1 (f.map iT), .sl true 3 (A.map tbO ++ [.sl true 1 ((colsOf L).map iT), .sl true 2 (R.map eT), .sl true 1 (Z.map cvO ++ (T23.map cvO).drop j)] :: B.map tbO), .sl true 4 (rs.map vT)]]), (6, [.po true [.i .i64 e.1, .i .i64 e.2]])]) [13, 15, 27, 53, 55, 56, 71, 72, 96, 97] (by simp) ?_ ?_
  · refine ⟨[], rfl, rfl, ?_⟩
    simp [q0, q2, q4, q10]
  · rintro j s hj ⟨Z, hZ, hZl, q11, q73, q74, q75, qH⟩
    rw [nf_of qH]
    have hw : IntKind.i64.wrap ((j : Int) + 1) = j + 1 := wrap_id (by omega) (by omega)
    cases hb9 : decide (j < L.length)
    · have hge := of_decide_eq_false hb9
      obtain rfl : j = L.length := by omega
      have hd : (T23.map cvO).drop L.length = [] := List.drop_eq_nil_of_le (by simp; omega)
      have hZ2 : Z = W := by rw [hW]; exact Eq.trans hZ (zipUp_all e6)
      subst hZ2
      simp [q11, q73, q74, q75, hb9, hd, hTS]
    · have hlt := of_decide_eq_true hb9
      obtain ⟨x, hx⟩ := get_some hlt
      obtain ⟨vs, hvs⟩ : ∃ vs, T23[j]? = some vs := get_some (by omega)
      have hvl := e8 vs (List.mem_of_getElem? hvs)
      simp [q11, q73, q74, q75, hb9, hx, hw, drop_at hvs, hZl]
      refine ⟨by omega, by omega, by omega, hlt, Z ++ [vs ++ [x.2]], ?_, by simp [hZl], ?_⟩
      · unfold isZip at hZ ⊢
        rw [hZ, zipUp_succ hvs hx]
      · simp
set_option maxHeartbeats 4000000 in
set_option maxRecDepth 100000 in
theorem w102 (g f : List Int) (ts : List TableP) (rs : List ValP) (L : List CellP) (e : Int × Int) (hg : g.length ≤ 2^36) (hf : f.length ≤ 2^36) (hrs : rs.length ≤ 2^36) (E : EvenP ts) (hL : L.length ≤ 2^30) (hn : ¬ fullT ts (colsOf L)) : Contract Tryz.prog false 102 [.own, .ro, .ro] [.po true [.sl true 1 (g.map iT), .sl true 1 (f.map iT), .sl true 3 (ts.map tbO), .sl true 4 (rs.map vT)], .ag (eT e), .sl false 5 (L.map clT)] [.b true] [some (.po true [.sl true 1 (g.map iT), .sl true 1 (f.map iT), .sl true 3 ((joinTs ts e L).map tbO), .sl true 4 (rs.map vT)])] := by
  refine mk_contract [some [(1, 0)]] Tryz.func102 (c := Tryz.f102.body.get!) (by kernel_rfl) k102 r102 (of_decide_eq_true rfl) fun _ => ?_
  have tl1 := tailJ1 g f
  have tl2 := tailJ2 g f
  obtain ⟨TS, hTS⟩ : ∃ TS, TS = joinTs ts e L := ⟨_, rfl⟩
  rw [← hTS]
  rw [c_restJ]
  generalize restJ = R at *
  simp only [fstJ, sndJ, c102]
  have hcl : (colsOf L).length = L.length := by simp [colsOf]
  have hT := w80 (g, f, ts, rs) (colsOf L) ⟨hg, hf, ⟨by have := E.n; simp only; omega, E.okT⟩, hrs⟩ (by omega)
  simp only at hT
  have hn30 := E.n
  simp
  refine twp_forR L.length (fun j s => ∃ Q : List Int, isTk (colsOf L) j Q ∧ Q.length = j ∧ s.t 0 = .pt [(1, 0)] 0 0 ∧ s.t 2 = .sl false 5 (L.map clT) ∧ s.t 4 = .pt [(6, 0)] 0 0 ∧ s.t 7 = .rf [(27, 0)] 0 Q.length ∧ s.t 15 = .sl false 5 (L.map clT) ∧ s.t 16 = .i .i64 L.length ∧ s.t 17 = .i .i64 j ∧ s.H = lk [(1, [.po true [.sl true 1 (g.map iT), .sl true 1 (f.map iT), .sl true 3 (ts.map tbO), .sl true 4 (rs.map vT)]]), (6, [.po true [.i .i64 e.1, .i .i64 e.2]]), (27, [.sl true 1 (Q.map iT)])]) [11, 26] [(16, 27)] (by simp) (by simp) ?_ ?_
  · refine ⟨[], rfl, rfl, ?_⟩
    simp
  · rintro j s hj ⟨Q, hQ, hQl, q0, q2, q4, q7, q15, q16, q17, qH⟩
    rw [nf_of qH]
    have hw : IntKind.i64.wrap ((j : Int) + 1) = j + 1 := wrap_id (by omega) (by omega)
    cases hb9 : decide (j < L.length)
    rotate_left
    · have hlt := of_decide_eq_true hb9
      obtain ⟨x, hx⟩ := get_some hlt
      have hx2 : (colsOf L)[j]? = some x.1 := by simp [colsOf, hx]
      simp [q0, q2, q4, q7, q15, q16, q17, hb9, hx, hw]
      refine ⟨by omega, hlt, Q ++ [x.1], hQ.snoc hx2, by simp [hQl], by simp, ?_⟩
      simp
    · have hge := of_decide_eq_false hb9
      obtain rfl : j = L.length := by omega
      have hQ2 : Q = colsOf L := hQ.trans (List.take_of_length_le (by omega))
      subst hQ2
      simp [q0, q2, q4, q7, q15, q16, q17, hb9]
      refine callW_ms [.ro, .ro] ?_
      simp
      refine callX_of hT (by simp) ?_
      unfold joinTs tabW at hTS
      by_cases hix : 0 ≤ tabIx ts (colsOf L)
      · rw [if_pos hix] at hTS
        obtain ⟨m, T2, h1, h2, h3⟩ := tabIx_at hix
        have hm := List.mem_of_getElem? h2
        obtain ⟨s1, s2⟩ := split_at h2
        have hjl := (List.getElem?_eq_some_iff.1 h2).1
        have hnn : ¬ ((m : Int) < 0) := by omega
        obtain ⟨T21, T22, T23⟩ := T2
        simp only at h3
        subst h3
        rw [h1] at hTS ⊢
        simp only [Int.toNat_natCast] at hTS
        obtain ⟨A, hA⟩ : ∃ A, A = ts.take m := ⟨_, rfl⟩
        obtain ⟨B, hB⟩ : ∃ B, B = ts.drop (m + 1) := ⟨_, rfl⟩
        have hAl : A.length = m := by rw [hA]; exact s2
        have hBl : B.length ≤ 2^30 := by rw [hB]; simp; omega
        rw [← hA, ← hB] at s1
        have hmod : ts.modify m (fun t => joinT t e L) = A ++ joinT (colsOf L, T22, T23) e L :: B := by rw [s1]; exact modify_mid hAl
        rw [hmod] at hTS
        simp [q0, q2, q4, q7, q15, q16, q17, hnn]
        refine tl1 A B rs L e T22 T23 hL (by have := E.s _ hm; simp only at this; omega) (by have := E.r _ hm; simpa using this) (by have := E.v _ hm; simpa using this) (by omega) hBl TS hTS _ ?_ ?_ ?_ ?_ ?_ <;> simp [q0, q2, q4, q7, q15, q16, q17, hAl]
        rw [s1]; simp
      · rw [if_neg hix] at hTS
        have hno : tabIx ts (colsOf L) < 0 := by omega
        have hl40 : ¬ ((ts.length : Int) = 40) := fun h => hn ⟨hix, by omega⟩
        simp [q0, q2, q4, q7, q15, q16, q17, hno, hl40, takeRows, hcl]
        refine ⟨by omega, by omega, ⟨by decide, by decide, by decide⟩, ?_⟩
        have hTS2 : TS = ts ++ joinT (colsOf L, [], List.replicate L.length []) e L :: [] := by
          rw [hTS, ← hcl]
          simp only
          exact modify_mid rfl
        refine tl2 ts [] rs L e [] (List.replicate L.length []) hL (by simp) (by simp) (fun v hv => by simp at hv; rw [hv.2]; rfl) hn30 (by simp) TS hTS2 _ ?_ ?_ ?_ ?_ ?_ <;> simp [q0, q2, q4, q7, q15, q16, q17]
end Go.Proofs.YtehmdblkkpdmoaaGreatT


namespace Go.Proofs.YtehmdblkkpdmoaaGreatT
set_option linter.unusedVariables false
set_option linter.unusedSimpArgs false
open Go
theorem W102f (g f : List Int) (ts : List TableP) (rs : List ValP) (L : List CellP) (e : Int × Int) (hg : g.length ≤ 2^36) (hf : f.length ≤ 2^36) (hrs : rs.length ≤ 2^36) (E : EvenP ts) (hL : L.length ≤ 2^30) (h40 : ts.length ≤ 40) (hn : fullT ts (colsOf L)) : Contract Tryz.prog false 102 [.own, .ro, .ro] [.po true [.sl true 1 (g.map iT), .sl true 1 (f.map iT), .sl true 3 (ts.map tbO), .sl true 4 (rs.map vT)], .ag (eT e), .sl false 5 (L.map clT)] [.b false] [some (.po true [.sl true 1 (g.map iT), .sl true 1 (f.map iT), .sl true 3 (ts.map tbO), .sl true 4 (rs.map vT)])] := by
  refine mk_contract [some [(1, 0)]] Tryz.func102 (c := Tryz.f102.body.get!) (by kernel_rfl) k102 r102 (of_decide_eq_true rfl) fun _ => ?_
  have hcl : (colsOf L).length = L.length := by simp [colsOf]
  have hT := w80 (g, f, ts, rs) (colsOf L) ⟨hg, hf, ⟨by have := E.n; simp only; omega, E.okT⟩, hrs⟩ (by omega)
  simp only at hT
  have hno : tabIx ts (colsOf L) < 0 := by have := hn.1; omega
  have hl40 : (ts.length : Int) = 40 := by have := hn.2; omega
  unfold c102; simp
  refine twp_forR L.length (fun j s => ∃ Q : List Int, isTk (colsOf L) j Q ∧ Q.length = j ∧ s.t 0 = .pt [(1, 0)] 0 0 ∧ s.t 2 = .sl false 5 (L.map clT) ∧ s.t 4 = .pt [(6, 0)] 0 0 ∧ s.t 7 = .rf [(27, 0)] 0 Q.length ∧ s.t 15 = .sl false 5 (L.map clT) ∧ s.t 16 = .i .i64 L.length ∧ s.t 17 = .i .i64 j ∧ s.H = lk [(1, [.po true [.sl true 1 (g.map iT), .sl true 1 (f.map iT), .sl true 3 (ts.map tbO), .sl true 4 (rs.map vT)]]), (6, [.po true [.i .i64 e.1, .i .i64 e.2]]), (27, [.sl true 1 (Q.map iT)])]) [11, 26] [(16, 27)] (by simp) (by simp) ?_ ?_
  · refine ⟨[], rfl, rfl, ?_⟩
    simp
  · rintro j s hj ⟨Q, hQ, hQl, q0, q2, q4, q7, q15, q16, q17, qH⟩
    rw [nf_of qH]
    have hw : IntKind.i64.wrap ((j : Int) + 1) = j + 1 := wrap_id (by omega) (by omega)
    cases hb9 : decide (j < L.length)
    rotate_left
    · have hlt := of_decide_eq_true hb9
      obtain ⟨x, hx⟩ := get_some hlt
      have hx2 : (colsOf L)[j]? = some x.1 := by simp [colsOf, hx]
      simp [q0, q2, q4, q7, q15, q16, q17, hb9, hx, hw]
      refine ⟨by omega, hlt, Q ++ [x.1], hQ.snoc hx2, by simp [hQl], by simp, ?_⟩
      simp
    · have hge := of_decide_eq_false hb9
      obtain rfl : j = L.length := by omega
      have hQ2 : Q = colsOf L := hQ.trans (List.take_of_length_le (by omega))
      subst hQ2
      simp [q0, q2, q4, q7, q15, q16, q17, hb9]
      refine callW_ms [.ro, .ro] ?_
      simp
      refine callX_of hT (by simp) ?_
      simp [q0, q2, q4, q7, q15, q16, q17, hno, hl40]
end Go.Proofs.YtehmdblkkpdmoaaGreatT


namespace Go.Proofs.YtehmdblkkpdmoaaGreatT
set_option linter.unusedVariables false
set_option linter.unusedSimpArgs false
open Go
def upC (M : List CellP) : Prop := M.Pairwise fun a b => a.1 < b.1
theorem upC.at {M : List CellP} (h : upC M) {i j : Nat} {x y : CellP} (hx : M[i]? = some x) (hy : M[j]? = some y) (hij : i < j) : x.1 < y.1 := by
  obtain ⟨h1, rfl⟩ := List.getElem?_eq_some_iff.1 hx
  obtain ⟨h2, rfl⟩ := List.getElem?_eq_some_iff.1 hy
  exact List.pairwise_iff_getElem.1 h i j h1 h2 hij
def atPl (M : List CellP) (c : CellP) (p : Nat) (D : List CellP) : Prop := D = M.take p ++ c :: M.drop p ∧ ∀ y ∈ M.drop p, c.1 < y.1
theorem atPl.len {M D : List CellP} {c : CellP} {p : Nat} (h : atPl M c p D) : D.length = M.length + 1 := by rw [h.1]; simp; omega
theorem atPl.at {M D : List CellP} {c : CellP} {p : Nat} (h : atPl M c p D) (hp : p ≤ M.length) : D[p]? = some c := by
  rw [h.1, List.getElem?_append_right (by simp; omega)]
  have : p - (M.take p).length = 0 := by simp; omega
  rw [this]; rfl
theorem atPl.step {M D : List CellP} {c z : CellP} {p : Nat} (h : atPl M c (p + 1) D) (hz : M[p]? = some z) (hc : c.1 < z.1) : atPl M c p ((D.set (p + 1) z).set p c) := by
  have hl := (List.getElem?_eq_some_iff.1 hz).1
  have hd : M.drop p = z :: M.drop (p + 1) := by rw [List.drop_eq_getElem_cons hl, (List.getElem?_eq_some_iff.1 hz).2]
  refine ⟨?_, fun y hy => ?_⟩
  · rw [h.1, take_snoc hz, hd]
    apply List.ext_getElem?
    intro i
    have h1 : (M.take p).length = p := by simp; omega
    generalize M.take p = A at *
    generalize M.drop (p + 1) = B at *
    simp only [List.append_assoc, List.singleton_append]
    rcases Nat.lt_trichotomy i p with hi | hi | hi
    · simp [List.getElem?_set, List.getElem?_append_left (show i < A.length by omega), show ¬ p = i by omega, show ¬ p + 1 = i by omega]
    · subst hi
      simp [List.getElem?_set, ← h1]
    · rcases Nat.lt_or_ge i (p + 2) with hi2 | hi2
      · have : i = p + 1 := by omega
        subst this
        simp [List.getElem?_set, ← h1, List.getElem?_append_right]
      · obtain ⟨m, rfl⟩ : ∃ m, i = p + 2 + m := ⟨i - p - 2, by omega⟩
        rw [List.getElem?_set_ne (by omega), List.getElem?_set_ne (by omega), List.getElem?_append_right (by omega), List.getElem?_append_right (by omega)]
        have : p + 2 + m - A.length = m + 2 := by omega
        rw [this]; rfl
  · rw [hd] at hy
    rcases List.mem_cons.1 hy with rfl | hy
    · exact hc
    · exact h.2 y hy
end Go.Proofs.YtehmdblkkpdmoaaGreatT


namespace Go.Proofs.YtehmdblkkpdmoaaGreatT
set_option linter.unusedVariables false
set_option linter.unusedSimpArgs false
open Go
theorem leaveL_le {α : Type} (l : List α) (k : Nat) : (leaveL l k).length ≤ l.length := by
  unfold leaveL; split <;> simp
theorem sumN_app {α : Type} (c : α → Nat) : ∀ (A B : List α), sumN c (A ++ B) = sumN c A + sumN c B
  | [], B => by simp [sumN]
  | a :: A, B => by simp only [List.cons_append, sumN, sumN_app c A B]; omega
theorem sumN_map {α β : Type} (c : β → Nat) (f : α → β) : ∀ (A : List α), sumN c (A.map f) = sumN (fun x => c (f x)) A
  | [] => rfl
  | a :: A => by simp only [List.map_cons, sumN, sumN_map c f A]
theorem leaveT_n (t : TableP) (k : Nat) : nTb (leaveT t k) ≤ nTb t := by
  unfold nTb leaveT
  have h1 := leaveL_le t.2.1 k
  have h2 : sumN nV (t.2.2.map fun v => leaveL v k) ≤ sumN nV t.2.2 := by
    rw [sumN_map]
    exact sumN_le (fun v => by unfold nV; have := leaveL_le v k; omega) _
  simp only; omega
end Go.Proofs.YtehmdblkkpdmoaaGreatT


namespace Go.Proofs.YtehmdblkkpdmoaaGreatT
set_option linter.unusedVariables false
set_option linter.unusedSimpArgs false
open Go
end Go.Proofs.YtehmdblkkpdmoaaGreatT


namespace Go.Proofs.YtehmdblkkpdmoaaGreatT
set_option linter.unusedVariables false
set_option linter.unusedSimpArgs false
open Go
theorem join_at {ts : List TableP} {i : Nat} {t : TableP} {e : Int × Int} {L : List CellP} (ht : ts[i]? = some t) (hne : t.1 ≠ colsOf L) : (joinTs ts e L)[i]? = some t := by
  have hil := (List.getElem?_eq_some_iff.1 ht).1
  unfold joinTs tabW
  by_cases hix : 0 ≤ tabIx ts (colsOf L)
  · rw [if_pos hix]
    obtain ⟨j, T2, h1, h2, h3⟩ := tabIx_at hix
    have hij : j ≠ i := by rintro rfl; rw [ht] at h2; cases h2; exact hne h3
    rw [h1]
    simp only [Int.toNat_natCast]
    simp [List.getElem?_modify, hij, ht]
  · rw [if_neg hix]
    simp only
    rw [List.getElem?_modify, List.getElem?_append_left hil, ht]
    simp [show ¬ ts.length = i by omega]
theorem joinTs_len (ts : List TableP) (e : Int × Int) (L : List CellP) : (joinTs ts e L).length ≤ ts.length + 1 := by
  unfold joinTs tabW
  split <;> simp
end Go.Proofs.YtehmdblkkpdmoaaGreatT

