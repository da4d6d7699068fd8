/- Regs: whether they are right. -/
import Derived.Test.YtloodkhdngipbaaKg
namespace Go.Proofs.YtloodkhdngipbaaT
set_option linter.unusedVariables false
set_option linter.unusedSimpArgs false
open Go

/- spec.RegOk -/
def c50 : TCode := (.seq (.ops [⟨(some 1), 3, .box 3 (.t 0), none, []⟩, ⟨(some 2), 4, .mv (.c (.b false)), none, []⟩])
  (.seq (.seq (.ops [⟨(some 6), 8, .faddr 0 1 (.t 1), none, []⟩, ⟨(some 7), 9, .load false 1 (.t 6), none, []⟩, ⟨(some 8), 10, .len false (.t 7), none, []⟩, ⟨(some 9), 11, .bin .gtr (.t 8) (.c (.i .i64 12)), none, []⟩, ⟨(some 10), 12, .mv (.t 9), none, []⟩, ⟨(some 11), 13, .faddr 1 1 (.t 1), (some (10, false)), []⟩, ⟨(some 12), 14, .load false 1 (.t 11), (some (10, false)), []⟩, ⟨(some 13), 15, .len false (.t 12), (some (10, false)), []⟩, ⟨(some 14), 16, .bin .gtr (.t 13) (.c (.i .i64 12)), (some (10, false)), []⟩, ⟨(some 15), 17, .pick (.t 10) (.c (.b true)) (.t 14), none, []⟩, ⟨(some 16), 18, .mv (.t 15), none, []⟩, ⟨(some 17), 19, .faddr 2 1 (.t 1), (some (16, false)), []⟩, ⟨(some 18), 20, .load false 1 (.t 17), (some (16, false)), []⟩, ⟨(some 19), 21, .len false (.t 18), (some (16, false)), []⟩, ⟨(some 20), 22, .bin .gtr (.t 19) (.c (.i .i64 12)), (some (16, false)), []⟩, ⟨(some 21), 23, .pick (.t 16) (.c (.b true)) (.t 20), none, []⟩])
  (.cond (.t 21)
  (.seq (.ops [⟨(some 2), 4, .mv (.c (.b false)), none, []⟩])
  .ret)
  .skip))
  (.seq (.draw [⟨(some 22), 24, .bslice 2 0 [(.s ⟨#[]⟩), (.i .i64 0)] [], none, []⟩, ⟨(some 23), 25, .faddr 0 1 (.t 1), none, [0]⟩, ⟨(some 24), 26, .load false 1 (.t 23), none, [0]⟩, ⟨(some 25), 27, .app 2 24 (.t 22) (.t 24), none, []⟩, ⟨(some 26), 28, .faddr 1 1 (.t 1), none, [0, 3]⟩, ⟨(some 27), 29, .load false 1 (.t 26), none, [0, 3]⟩, ⟨(some 28), 30, .app 2 24 (.t 25) (.t 27), none, []⟩, ⟨(some 29), 31, .faddr 2 1 (.t 1), none, [0, 3, 6]⟩, ⟨(some 30), 32, .load false 1 (.t 29), none, [0, 3, 6]⟩, ⟨(some 31), 33, .app 2 24 (.t 28) (.t 30), none, []⟩, ⟨(some 3), 5, .mv (.t 31), none, []⟩])
  (.seq (.seq (.ops [⟨(some 4), 6, .mv (.c (.i .i64 0)), none, []⟩])
  (.block 0 (.loop (.seq (.seq (.ops [⟨(some 32), 34, .mv (.t 4), none, []⟩, ⟨(some 33), 35, .mv (.t 3), none, []⟩, ⟨(some 34), 36, .len false (.t 33), none, []⟩, ⟨(some 35), 37, .bin .lss (.t 32) (.t 34), none, []⟩])
  (.cond (.t 35)
  .skip
  (.exit 0)))
  (.seq (.block 1 (.seq (.seq (.ops [⟨(some 38), 40, .mv (.t 3), none, []⟩, ⟨(some 39), 41, .mv (.t 4), none, []⟩, ⟨(some 40), 42, .iaddr 2 (.t 38) (.t 39), none, []⟩, ⟨(some 41), 43, .faddr 0 1 (.t 40), none, []⟩, ⟨(some 42), 44, .load false 1 (.t 41), none, []⟩, ⟨(some 43), 45, .call 102 [((.t 42), 0)], none, []⟩, ⟨(some 44), 46, .un .not (.t 43), none, []⟩, ⟨(some 45), 47, .mv (.t 44), none, []⟩, ⟨(some 46), 48, .mv (.t 3), (some (45, false)), []⟩, ⟨(some 47), 49, .mv (.t 4), (some (45, false)), []⟩, ⟨(some 48), 50, .iaddr 2 (.t 46) (.t 47), (some (45, false)), []⟩, ⟨(some 49), 51, .faddr 1 1 (.t 48), (some (45, false)), []⟩, ⟨(some 50), 52, .load false 1 (.t 49), (some (45, false)), []⟩, ⟨(some 51), 53, .call 71 [((.t 50), 0), ((.c (.i .i64 1)), 0), ((.c (.i .i64 4)), 0)], (some (45, false)), []⟩, ⟨(some 52), 54, .un .not (.t 51), (some (45, false)), []⟩, ⟨(some 53), 55, .pick (.t 45) (.c (.b true)) (.t 52), none, []⟩])
  (.cond (.t 53)
  (.seq (.ops [⟨(some 2), 4, .mv (.c (.b false)), none, []⟩])
  .ret)
  .skip))
  (.seq (.ops [⟨(some 5), 7, .mv (.c (.i .i64 0)), none, []⟩])
  (.block 2 (.loop (.seq (.seq (.ops [⟨(some 54), 56, .mv (.t 5), none, []⟩, ⟨(some 55), 57, .mv (.t 4), none, []⟩, ⟨(some 56), 58, .bin .lss (.t 54) (.t 55), none, []⟩])
  (.cond (.t 56)
  .skip
  (.exit 2)))
  (.seq (.block 3 (.seq (.draw [⟨(some 59), 61, .mv (.t 3), none, []⟩, ⟨(some 60), 62, .mv (.t 5), none, []⟩, ⟨(some 61), 63, .iaddr 2 (.t 59) (.t 60), none, []⟩, ⟨(some 62), 64, .faddr 0 1 (.t 61), none, []⟩, ⟨(some 63), 65, .load false 1 (.t 62), none, []⟩, ⟨(some 64), 66, .mv (.t 3), none, []⟩, ⟨(some 65), 67, .mv (.t 4), none, []⟩, ⟨(some 66), 68, .iaddr 2 (.t 64) (.t 65), none, []⟩, ⟨(some 67), 69, .faddr 0 1 (.t 66), none, []⟩, ⟨(some 68), 70, .load false 1 (.t 67), none, []⟩, ⟨(some 69), 71, .bin .eql (.t 63) (.t 68), none, []⟩])
  (.cond (.t 69)
  (.seq (.ops [⟨(some 2), 4, .mv (.c (.b false)), none, []⟩])
  .ret)
  .skip)))
  (.ops [⟨(some 57), 59, .mv (.t 5), none, []⟩, ⟨(some 58), 60, .bin .add (.t 57) (.c (.i .i64 1)), none, []⟩, ⟨(some 5), 7, .mv (.t 58), none, []⟩]))))))))
  (.ops [⟨(some 36), 38, .mv (.t 4), none, []⟩, ⟨(some 37), 39, .bin .add (.t 36) (.c (.i .i64 1)), none, []⟩, ⟨(some 4), 6, .mv (.t 37), none, []⟩]))))))
  (.seq (.ops [⟨(some 2), 4, .mv (.c (.b true)), none, []⟩])
  .ret)))))
theorem k50 : compCode Try.prog Try.f50.ntmps Try.f50.body.get! = some c50 := by kernel_rfl
theorem r50 : resTmps Try.prog Try.f50.results.toList = some [.tmp 2] := by kernel_rfl
/- impl.RegOk -/
def c49 : TCode := (.seq (.ops [⟨(some 1), 3, .box 3 (.t 0), none, []⟩, ⟨(some 2), 4, .mv (.c (.b false)), none, []⟩])
  (.seq (.ops [⟨(some 8), 10, .bslice 1 0 [(.s ⟨#[]⟩)] [], none, []⟩, ⟨(some 3), 5, .mv (.t 8), none, []⟩])
  (.seq (.seq (.ops [⟨(some 9), 11, .faddr 0 1 (.t 1), none, []⟩, ⟨(some 10), 12, .load false 1 (.t 9), none, []⟩, ⟨(some 11), 13, .faddr 1 1 (.t 1), none, []⟩, ⟨(some 12), 14, .load false 1 (.t 11), none, []⟩, ⟨(some 13), 15, .faddr 2 1 (.t 1), none, []⟩, ⟨(some 14), 16, .load false 1 (.t 13), none, []⟩, ⟨(some 15), 17, .bslice 1 3 [(.sl true 2 [])] [(0, (.t 10)), (1, (.t 12)), (2, (.t 14))], none, []⟩, ⟨(some 16), 18, .len false (.t 15), none, []⟩, ⟨(some 17), 19, .mv (.c (.i .i64 0)), none, []⟩])
  (.block 0 (.loop (.seq (.ops [⟨(some 18), 20, .bin .lss (.t 17) (.t 16), none, []⟩])
  (.seq (.cond (.t 18)
  .skip
  (.exit 0))
  (.seq (.block 1 (.seq (.ops [⟨(some 19), 21, .iaddr 1 (.t 15) (.t 17), none, []⟩, ⟨(some 20), 22, .load false 1 (.t 19), none, []⟩, ⟨(some 5), 7, .mv (.t 20), none, []⟩])
  (.seq (.seq (.ops [⟨(some 21), 23, .mv (.t 5), none, []⟩, ⟨(some 22), 24, .len false (.t 21), none, []⟩, ⟨(some 23), 25, .bin .gtr (.t 22) (.c (.i .i64 12)), none, []⟩])
  (.cond (.t 23)
  (.seq (.ops [⟨(some 2), 4, .mv (.c (.b false)), none, []⟩])
  .ret)
  .skip))
  (.seq (.ops [⟨(some 24), 26, .mv (.t 5), none, []⟩, ⟨(some 25), 27, .len false (.t 24), none, []⟩, ⟨(some 26), 28, .mv (.c (.i .i64 0)), none, []⟩])
  (.block 2 (.loop (.seq (.ops [⟨(some 27), 29, .bin .lss (.t 26) (.t 25), none, []⟩])
  (.seq (.cond (.t 27)
  .skip
  (.exit 2))
  (.seq (.block 3 (.seq (.ops [⟨(some 28), 30, .iaddr 2 (.t 24) (.t 26), none, []⟩, ⟨(some 29), 31, .load true 2 (.t 28), none, []⟩, ⟨(some 7), 9, .box 2 (.c (.ag [(.s ⟨#[]⟩), (.i .i64 0)])), none, []⟩, ⟨none, 1009003, .store 2 (.t 7) (.t 29), none, []⟩])
  (.seq (.seq (.ops [⟨(some 30), 32, .faddr 0 1 (.t 7), none, []⟩, ⟨(some 31), 33, .load false 1 (.t 30), none, []⟩, ⟨(some 32), 34, .call 54 [((.t 31), 0)], none, []⟩, ⟨(some 33), 35, .un .not (.t 32), none, []⟩, ⟨(some 34), 36, .mv (.t 33), none, []⟩, ⟨(some 35), 37, .mv (.t 3), (some (34, false)), []⟩, ⟨(some 36), 38, .faddr 0 1 (.t 7), (some (34, false)), []⟩, ⟨(some 37), 39, .load false 1 (.t 36), (some (34, false)), []⟩, ⟨(some 38), 40, .call 100 [((.t 35), 0), ((.t 37), 0)], (some (34, false)), []⟩, ⟨(some 39), 41, .pick (.t 34) (.c (.b true)) (.t 38), none, []⟩, ⟨(some 40), 42, .mv (.t 39), none, []⟩, ⟨(some 41), 43, .faddr 1 1 (.t 7), (some (40, false)), []⟩, ⟨(some 42), 44, .load false 1 (.t 41), (some (40, false)), []⟩, ⟨(some 43), 45, .call 101 [((.t 42), 0)], (some (40, false)), []⟩, ⟨(some 44), 46, .un .not (.t 43), (some (40, false)), []⟩, ⟨(some 45), 47, .pick (.t 40) (.c (.b true)) (.t 44), none, []⟩])
  (.cond (.t 45)
  (.seq (.ops [⟨(some 2), 4, .mv (.c (.b false)), none, []⟩])
  .ret)
  .skip))
  (.ops [⟨(some 46), 48, .mv (.t 3), none, []⟩, ⟨(some 47), 49, .faddr 0 1 (.t 7), none, []⟩, ⟨(some 48), 50, .load false 1 (.t 47), none, []⟩, ⟨(some 49), 51, .bslice 1 1 [(.s ⟨#[]⟩)] [(0, (.t 48))], none, []⟩, ⟨(some 50), 52, .app 1 16 (.t 46) (.t 49), none, []⟩, ⟨(some 3), 5, .mv (.t 50), none, []⟩]))))
  (.ops [⟨(some 51), 53, .bin .add (.t 26) (.c (.i .i64 1)), none, []⟩, ⟨(some 26), 28, .mv (.t 51), none, []⟩]))))))))))
  (.ops [⟨(some 52), 54, .bin .add (.t 17) (.c (.i .i64 1)), none, []⟩, ⟨(some 17), 19, .mv (.t 52), none, []⟩])))))))
  (.seq (.ops [⟨(some 2), 4, .mv (.c (.b true)), none, []⟩])
  .ret))))
theorem k49 : compCode Try.prog Try.f49.ntmps Try.f49.body.get! = some c49 := by kernel_rfl
theorem r49 : resTmps Try.prog Try.f49.results.toList = some [.tmp 2] := by kernel_rfl
/- slices.Index[[]string,string] -/
def c141 : TCode := (.seq (.ops [⟨(some 4), 6, .mv (.c (.i .i64 0)), none, []⟩])
  (.seq (.seq (.ops [⟨(some 6), 8, .mv (.t 0), none, []⟩, ⟨(some 7), 9, .len false (.t 6), none, []⟩, ⟨(some 8), 10, .mv (.c (.i .i64 0)), none, []⟩])
  (.block 0 (.loop (.seq (.ops [⟨(some 9), 11, .bin .lss (.t 8) (.t 7), none, []⟩])
  (.seq (.cond (.t 9)
  .skip
  (.exit 0))
  (.seq (.block 1 (.seq (.ops [⟨(some 10), 12, .mv (.t 8), none, []⟩, ⟨(some 5), 7, .mv (.t 10), none, []⟩])
  (.seq (.ops [⟨(some 11), 13, .mv (.t 1), none, []⟩, ⟨(some 12), 14, .mv (.t 0), none, []⟩, ⟨(some 13), 15, .mv (.t 5), none, []⟩, ⟨(some 14), 16, .iaddr 1 (.t 12) (.t 13), none, []⟩, ⟨(some 15), 17, .load false 1 (.t 14), none, []⟩, ⟨(some 16), 18, .bin .eql (.t 11) (.t 15), none, []⟩])
  (.cond (.t 16)
  (.seq (.ops [⟨(some 17), 19, .mv (.t 5), none, []⟩, ⟨(some 4), 6, .mv (.t 17), none, []⟩])
  .ret)
  .skip))))
  (.ops [⟨(some 18), 20, .bin .add (.t 8) (.c (.i .i64 1)), none, []⟩, ⟨(some 8), 10, .mv (.t 18), none, []⟩])))))))
  (.seq (.ops [⟨(some 4), 6, .mv (.c (.i .i64 (-1))), none, []⟩])
  .ret)))
theorem k141 : compCode Try.prog Try.f141.ntmps Try.f141.body.get! = some c141 := by kernel_rfl
theorem r141 : resTmps Try.prog Try.f141.results.toList = some [.tmp 4] := by kernel_rfl
/- slices.Contains[[]string,string] -/
def c100 : TCode := (.seq (.ops [⟨(some 4), 6, .mv (.c (.b false)), none, []⟩])
  (.seq (.ops [⟨(some 5), 7, .mv (.t 0), none, []⟩, ⟨(some 6), 8, .mv (.t 1), none, []⟩, ⟨(some 7), 9, .call 141 [((.t 5), 0), ((.t 6), 0)], none, []⟩, ⟨(some 8), 10, .bin .geq (.t 7) (.c (.i .i64 0)), none, []⟩, ⟨(some 4), 6, .mv (.t 8), none, []⟩])
  .ret))
theorem k100 : compCode Try.prog Try.f100.ntmps Try.f100.body.get! = some c100 := by kernel_rfl
theorem r100 : resTmps Try.prog Try.f100.results.toList = some [.tmp 4] := by kernel_rfl

/-- The place of the first that is meant, or -1. -/
def idxP {α : Type} (p : α → Bool) (l : List α) : Int := match l.findIdx? p with
  | some i => i
  | none => -1
theorem idxP_at {α : Type} {p : α → Bool} {l : List α} {x : α} {j : Nat} (h : l[j]? = some x) (hp : p x = true) (hn : ∀ y ∈ l.take j, p y = false) : idxP p l = j := by
  have hj := (List.getElem?_eq_some_iff.1 h).1
  have : l.findIdx? p = some j := by
    rw [List.findIdx?_eq_some_iff_getElem]
    refine ⟨hj, by rw [(List.getElem?_eq_some_iff.1 h).2]; exact hp, fun k hk => ?_⟩
    have := hn (l[k]) (by rw [List.mem_take_iff_getElem]; exact ⟨k, by omega, rfl⟩)
    simp [this]
  simp [idxP, this]
theorem idxP_none {α : Type} {p : α → Bool} {l : List α} (h : ∀ y ∈ l, p y = false) : idxP p l = -1 := by
  have : l.findIdx? p = none := by rw [List.findIdx?_eq_none_iff]; exact fun x hx => by simp [h x hx]
  simp [idxP, this]
theorem idxP_ge {α : Type} {p : α → Bool} {l : List α} : 0 ≤ idxP p l ↔ ∃ y ∈ l, p y = true := by
  unfold idxP
  split
  · rename_i i hi
    rw [List.findIdx?_eq_some_iff_getElem] at hi
    obtain ⟨h1, h2, _⟩ := hi
    exact ⟨fun _ => ⟨l[i], List.getElem_mem h1, h2⟩, fun _ => by omega⟩
  · rename_i hi
    rw [List.findIdx?_eq_none_iff] at hi
    exact ⟨fun h => by omega, fun ⟨y, h1, h2⟩ => by have := hi y h1; simp [h2] at this⟩
theorem w141 (l : List ByteArray) (x : ByteArray) (hl : l.length ≤ 2^40) : Contract Try.prog false 141 [.ro, .ro] [.sl false 1 (l.map sT), .s x] [.i .i64 (idxP (fun y => decide (x = y)) l)] [] := by
  refine mk_contract [] Try.func141 (c := Try.f141.body.get!) (by kernel_rfl) k141 r141 (of_decide_eq_true rfl) fun _ => ?_
  unfold c141; simp
  refine twp_for l.length (fun j s => s.t 0 = .sl false 1 (l.map sT) ∧ s.t 1 = .s x ∧ s.t 7 = .i .i64 l.length ∧ s.t 8 = .i .i64 j ∧ (∀ y ∈ l.take j, decide (x = y) = false) ∧ s.H = lk [(1, [])]) [] (by simp) ?_ ?_
  · simp
  · rintro j s hj ⟨q0, q1, q7, q8, hn, qH⟩
    rw [nf_of qH]
    simp [q0, q1, q7, q8]
    refine ⟨fun hlt => ?_, fun hge => ?_⟩
    · have hw : IntKind.i64.wrap (j + 1) = j + 1 := wrap_id (by omega) (by omega)
      obtain ⟨y, hy⟩ := get_some hlt
      simp [hy, hw, q0, q1, q7, q8]
      refine ⟨fun h => (idxP_at hy (by simp [h]) hn).symm, fun h => ⟨hlt, fun z hz => ?_⟩⟩
      rw [take_snoc hy, List.mem_append, List.mem_singleton] at hz
      rcases hz with hz | rfl
      · simpa using hn z hz
      · exact h
    · obtain rfl : j = l.length := by omega
      rw [List.take_of_length_le (Nat.le_refl _)] at hn
      exact (idxP_none hn).symm
theorem w100 (l : List ByteArray) (x : ByteArray) (hl : l.length ≤ 2^40) : Contract Try.prog false 100 [.ro, .ro] [.sl false 1 (l.map sT), .s x] [.b (decide (x ∈ l))] [] := by
  refine mk_contract [] Try.func100 (c := Try.f100.body.get!) (by kernel_rfl) k100 r100 (of_decide_eq_true rfl) fun _ => ?_
  unfold c100; simp
  refine callW_ms [.ro, .ro] ?_
  simp
  refine callX_of (w141 l x hl) (by simp) ?_
  simp [idxP_ge]

def goodD (d : ByteArray × Int) : Prop := nameP d.1 ∧ 1 ≤ d.2 ∧ d.2 ≤ 4
/-- What is right of all declarations. -/
def okPre (l : List (ByteArray × Int)) : Prop := (∀ d ∈ l, goodD d) ∧ (l.map (·.1)).Nodup
noncomputable instance okPreD (l : List (ByteArray × Int)) : Decidable (okPre l) := Classical.propDecidable _
def RegOkP (c r e : List (ByteArray × Int)) : Prop := (c.length ≤ 12 ∧ r.length ≤ 12 ∧ e.length ≤ 12) ∧ okPre (c ++ r ++ e)
noncomputable instance (c r e : List (ByteArray × Int)) : Decidable (RegOkP c r e) := Classical.propDecidable _
theorem okPre_snoc {l : List (ByteArray × Int)} {d : ByteArray × Int} : okPre (l ++ [d]) ↔ okPre l ∧ goodD d ∧ d.1 ∉ l.map (·.1) := by
  unfold okPre
  simp only [List.mem_append, List.mem_singleton, List.map_append, List.map_cons, List.map_nil, List.nodup_append, List.nodup_cons]
  constructor
  · rintro ⟨h1, h2, _, h3⟩
    exact ⟨⟨fun y hy => h1 y (.inl hy), h2⟩, h1 d (.inr rfl), fun hx => h3 _ hx _ (by simp) rfl⟩
  · rintro ⟨⟨h1, h2⟩, h3, h4⟩
    refine ⟨fun y hy => ?_, h2, by simp, fun y hy z hz => ?_⟩
    · rcases hy with hy | rfl
      · exact h1 y hy
      · exact h3
    · subst hz; rintro rfl; exact h4 hy
theorem okPre_take {l : List (ByteArray × Int)} (h : okPre l) (j : Nat) : okPre (l.take j) :=
  ⟨fun x hx => h.1 x (List.mem_of_mem_take hx), by rw [List.map_take]; exact h.2.sublist (List.take_sublist j _)⟩

theorem w50 (c r e : List (ByteArray × Int)) (hc : c.length ≤ 2^40) (hr : r.length ≤ 2^40) (he : e.length ≤ 2^40) : Contract Try.prog false 50 [.ro] [regR c r e] [.b (decide (RegOkP c r e))] [] := by
  refine mk_contract [] Try.func50 (c := Try.f50.body.get!) (by kernel_rfl) k50 r50 (of_decide_eq_true rfl) fun _ => ?_
  unfold c50; unfold regR; simp
  by_cases h1 : (12 : Int) < c.length
  · have : ¬ RegOkP c r e := fun h => by have := h.1.1; omega
    simp [h1, this]
  by_cases h2 : (12 : Int) < r.length
  · have : ¬ RegOkP c r e := fun h => by have := h.1.2.1; omega
    simp [h1, h2, this]
  by_cases h3 : (12 : Int) < e.length
  · have : ¬ RegOkP c r e := fun h => by have := h.1.2.2; omega
    simp [h1, h2, h3, this]
  simp [h1, h2, h3]
  refine ⟨by omega, by omega, by omega, ?_⟩
  obtain ⟨L, hL⟩ : ∃ L, L = c ++ r ++ e := ⟨_, rfl⟩
  have hLl : L.length ≤ 36 := by subst hL; simp; omega
  have hP : RegOkP c r e ↔ okPre L := by subst hL; exact ⟨fun h => h.2, fun h => ⟨by omega, h⟩⟩
  rw [show decide (RegOkP c r e) = decide (okPre L) from decide_eq_decide.2 hP]
  refine twp_for L.length (fun j s => s.t 3 = .rf [(33, 0)] 0 L.length ∧ s.t 4 = .i .i64 j ∧ okPre (L.take j) ∧ s.H = lk [(1, []), (3, [.po true [.sl false 2 (c.map dT), .sl false 2 (r.map dT), .sl false 2 (e.map dT)]]), (33, [.sl true 2 (L.map dT)])]) [24, 27, 30] (by simp) ?_ ?_
  · simp [hL, okPre, Nat.add_assoc]
  · rintro j s hj ⟨q3, q4, hn, qH⟩
    rw [nf_of qH]
    simp [q3, q4]
    refine ⟨fun hlt => ?_, fun hge => ?_⟩
    · have hw : IntKind.i64.wrap (j + 1) = j + 1 := wrap_id (by omega) (by omega)
      obtain ⟨x, hx⟩ := get_some hlt
      simp [hx, hw, q3, q4]
      have hbad : okPre L → goodD x := fun h => h.1 x (List.mem_of_getElem? hx)
      refine ⟨hlt, ?_⟩
      by_cases hn1 : nameP x.1
      · refine callW_ms [.ro] ?_
        simp
        refine callX_of ((w102 x.1).t hn1) (by simp) ?_
        simp [hw, q3, q4, hx]
        refine ⟨hlt, ?_⟩
        by_cases hk : 1 ≤ x.2 ∧ x.2 ≤ 4
        · refine callW_ms [.ro, .ro, .ro] ?_
          simp
          refine callX_of ((w71 x.2 1 4).t hk) (by simp) ?_
          simp [hw, q3, q4, hx]
          refine twp_for j (fun i s2 => s2.t 3 = .rf [(33, 0)] 0 L.length ∧ s2.t 4 = .i .i64 j ∧ s2.t 5 = .i .i64 i ∧ (∀ d ∈ L.take i, d.1 ≠ x.1) ∧ s2.H = lk [(1, []), (3, [.po true [.sl false 2 (c.map dT), .sl false 2 (r.map dT), .sl false 2 (e.map dT)]]), (33, [.sl true 2 (L.map dT)])]) [] (by simp) ?_ ?_
          · simp [q3, q4]
          · rintro i s2 hi ⟨p3, p4, p5, hd, pH⟩
            rw [nf_of pH]
            simp [p3, p4, p5]
            refine ⟨fun hlt2 => ?_, fun hge2 => ?_⟩
            · have hwi : IntKind.i64.wrap (i + 1) = i + 1 := wrap_id (by omega) (by omega)
              obtain ⟨y, hy⟩ := get_some (l := L) (j := i) (by omega)
              simp [hy, hwi, hx, p3, p4, p5]
              refine ⟨by omega, hlt, ?_⟩
              refine ⟨fun h h2 => ?_, fun h => ⟨hlt2, fun a b hab => ?_⟩⟩
              · have h3 := okPre_take h2 (j + 1)
                rw [take_snoc hx, okPre_snoc] at h3
                refine h3.2.2 (List.mem_map.2 ⟨y, ?_, h⟩)
                rw [List.mem_take_iff_getElem]
                exact ⟨i, by omega, (List.getElem?_eq_some_iff.1 hy).2⟩
              · rw [take_snoc hy, List.mem_append, List.mem_singleton] at hab
                rcases hab with hab | hab
                · exact hd _ hab
                · rw [show a = y.1 by rw [← hab]]; exact h
            · obtain rfl : i = j := by omega
              simp [p3, p4, p5, hw]
              refine ⟨hlt, ?_⟩
              rw [take_snoc hx, okPre_snoc]
              refine ⟨hn, ⟨hn1, hk⟩, fun h => ?_⟩
              obtain ⟨d, hd1, hd2⟩ := List.mem_map.1 h
              exact hd d hd1 hd2
        · refine callW_ms [.ro, .ro, .ro] ?_
          simp
          refine callX_of ((w71 x.2 1 4).f hk) (by simp) ?_
          simp [hw, q3, q4, hx]
          intro h; exact hk (hbad h).2
      · refine callW_ms [.ro] ?_
        simp
        refine callX_of ((w102 x.1).f hn1) (by simp) ?_
        simp [hw, q3, q4, hx]
        intro h; exact hn1 (hbad h).1
    · obtain rfl : j = L.length := by omega
      rw [List.take_of_length_le (Nat.le_refl _)] at hn
      exact hn

theorem okPre_flat {c r e : List (ByteArray × Int)} : RegOkP c r e ↔ (∀ l ∈ [c, r, e], l.length ≤ 12) ∧ okPre ([c, r, e].flatten) := by
  unfold RegOkP; simp [List.append_assoc]
theorem flat_take {α : Type} {Ls : List (List α)} {j : Nat} {l : List α} (h : Ls[j]? = some l) : (Ls.take (j + 1)).flatten = (Ls.take j).flatten ++ l := by
  rw [take_snoc h]; simp
theorem okPre_left {a b : List (ByteArray × Int)} (h : okPre (a ++ b)) : okPre a := by
  have := okPre_take h a.length; simpa using this
theorem flat_left {α : Type} (Ls : List (List α)) (j : Nat) : ∃ b, Ls.flatten = (Ls.take j).flatten ++ b := ⟨(Ls.drop j).flatten, by rw [← List.flatten_append, List.take_append_drop]⟩
def namesB (Ls : List (List (ByteArray × Int))) (j : Nat) (l : List (ByteArray × Int)) (i : Nat) : List ByteArray := ((Ls.take j).flatten ++ l.take i).map (·.1)
theorem w49 (c r e : List (ByteArray × Int)) (hc : c.length ≤ 2^40) (hr : r.length ≤ 2^40) (he : e.length ≤ 2^40) (hs : ∀ l ∈ [c, r, e], ∀ d ∈ l, d.1.size ≤ 2^40) : Contract Try.prog false 49 [.ro] [regR c r e] [.b (decide (RegOkP c r e))] [] := by
  refine mk_contract [] Try.func49 (c := Try.f49.body.get!) (by kernel_rfl) k49 r49 (of_decide_eq_true rfl) fun _ => ?_
  unfold c49; unfold regR; simp
  have hP := okPre_flat (c := c) (r := r) (e := e)
  obtain ⟨Ls, hLs⟩ : ∃ Ls, Ls = [c, r, e] := ⟨_, rfl⟩
  have hl3 : Ls.length = 3 := by subst hLs; rfl
  have hlb : ∀ l ∈ Ls, l.length ≤ 2^40 := by subst hLs; simp; omega
  rw [← hLs] at hP hs
  refine twp_forR 3 (fun j s => s.t 3 = .rf [(52, 0)] 0 (namesB Ls j [] 0).length ∧ s.t 15 = .rf [(17, 0)] 0 3 ∧ s.t 16 = .i .i64 3 ∧ s.t 17 = .i .i64 j ∧ (∀ l ∈ Ls.take j, l.length ≤ 12) ∧ okPre (Ls.take j).flatten ∧ (namesB Ls j [] 0).length ≤ 12 * j ∧ s.H = lk [(1, []), (3, [.po true [.sl false 2 (c.map dT), .sl false 2 (r.map dT), .sl false 2 (e.map dT)]]), (52, [.sl true 1 ((namesB Ls j [] 0).map sT)]), (17, [.sl true 1 (Ls.map fun l => [.sl false 2 (l.map dT)])])]) [] [(10, 52)] (by simp) (by simp) ?_ ?_
  · simp [hLs, okPre, namesB]
  · rintro j s hj ⟨q3, q15, q16, q17, hlen, hn, hnl, qH⟩
    rw [nf_of qH]
    simp [q3, q15, q16, q17]
    refine ⟨fun hlt => ?_, fun hge => ?_⟩
    · have hw : IntKind.i64.wrap (j + 1) = j + 1 := wrap_id (by omega) (by omega)
      obtain ⟨l, hl⟩ := get_some (l := Ls) (j := j) (by omega)
      have hlm := List.mem_of_getElem? hl
      have hl40 := hlb l hlm
      simp [hl, hw, q3, q15, q16, q17]
      by_cases h12 : (12 : Int) < l.length
      · have : ¬ RegOkP c r e := fun h => by have := (hP.1 h).1 l hlm; omega
        simp [h12, this]
        omega
      · simp [h12]
        refine ⟨by omega, fun _ => ?_⟩
        refine twp_for l.length (fun i s2 => s2.t 3 = .rf [(52, 0)] 0 (namesB Ls j l i).length ∧ s2.t 15 = .rf [(17, 0)] 0 3 ∧ s2.t 16 = .i .i64 3 ∧ s2.t 17 = .i .i64 j ∧ s2.t 24 = .sl false 2 (l.map dT) ∧ s2.t 25 = .i .i64 l.length ∧ s2.t 26 = .i .i64 i ∧ okPre ((Ls.take j).flatten ++ l.take i) ∧ (namesB Ls j l i).length ≤ 12 * j + i ∧ s2.H = lk [(1, []), (3, [.po true [.sl false 2 (c.map dT), .sl false 2 (r.map dT), .sl false 2 (e.map dT)]]), (52, [.sl true 1 ((namesB Ls j l i).map sT)]), (17, [.sl true 1 (Ls.map fun l => [.sl false 2 (l.map dT)])])]) [9, 51] (by simp) ?_ ?_
        · have e : namesB Ls j l 0 = namesB Ls j [] 0 := by simp [namesB]
          simp [q3, q15, q16, q17, hn, hnl, e]
        · rintro i s2 hi ⟨p3, p15, p16, p17, p24, p25, p26, hni, hnli, pH⟩
          rw [nf_of pH]
          simp [p3, p15, p16, p17, p24, p25, p26]
          refine ⟨fun hlt2 => ?_, fun hge2 => ?_⟩
          · have hwi : IntKind.i64.wrap (i + 1) = i + 1 := wrap_id (by omega) (by omega)
            obtain ⟨d, hd⟩ := get_some hlt2
            have hdm := List.mem_of_getElem? hd
            have hall : RegOkP c r e → okPre ((Ls.take j).flatten ++ l.take i ++ [d]) := fun h => by
              have h2 := (hP.1 h).2
              obtain ⟨b, hb⟩ := flat_left Ls (j + 1)
              rw [hb, flat_take hl] at h2
              have h3 := okPre_left h2
              rw [← List.take_append_drop (i + 1) l, take_snoc hd] at h3
              rw [← List.append_assoc, ← List.append_assoc] at h3
              exact okPre_left h3
            rw [okPre_snoc] at hall
            have hmem : (d.1 ∈ ((Ls.take j).flatten ++ l.take i).map (·.1)) ↔ d.1 ∈ namesB Ls j l i := Iff.rfl
            rw [hmem] at hall
            simp [hd, hwi, p3, p15, p16, p17, p24, p25, p26]
            by_cases hn1 : nameP d.1
            · refine callW_ms [.ro] ?_
              simp
              refine callX_of ((w54 d.1 (hs l hlm d hdm)).t hn1) (by simp) ?_
              simp [hwi, p3, p15, p16, p17, p24, p25, p26]
              by_cases hm : d.1 ∈ namesB Ls j l i
              · refine callW_ms [.ro, .ro] ?_
                simp
                refine callX_of ((w100 (namesB Ls j l i) d.1 (by omega)).t hm) (by simp) ?_
                simp [hwi, p3, p15, p16, p17, p24, p25, p26]
                intro h; exact (hall h).2.2 hm
              · refine callW_ms [.ro, .ro] ?_
                simp
                refine callX_of ((w100 (namesB Ls j l i) d.1 (by omega)).f hm) (by simp) ?_
                simp [hwi, p3, p15, p16, p17, p24, p25, p26]
                by_cases hk : 1 ≤ d.2 ∧ d.2 ≤ 4
                · refine callW_ms [.ro] ?_
                  simp
                  refine callX_of ((w101 d.2).t hk) (by simp) ?_
                  simp [hwi, p3, p15, p16, p17, p24, p25, p26]
                  have e1 : namesB Ls j l (i + 1) = namesB Ls j l i ++ [d.1] := by
                    unfold namesB; rw [take_snoc hd, ← List.append_assoc, List.map_append]; rfl
                  refine ⟨by omega, hlt2, by rw [e1]; simp, ?_, by rw [e1]; simp; omega, by rw [e1]; simp⟩
                  rw [take_snoc hd, ← List.append_assoc, okPre_snoc]
                  exact ⟨hni, ⟨hn1, hk⟩, hm⟩
                · refine callW_ms [.ro] ?_
                  simp
                  refine callX_of ((w101 d.2).f hk) (by simp) ?_
                  simp [hwi, p3, p15, p16, p17, p24, p25, p26]
                  intro h; exact hk (hall h).2.1.2
            · refine callW_ms [.ro] ?_
              simp
              refine callX_of ((w54 d.1 (hs l hlm d hdm)).f hn1) (by simp) ?_
              simp [hwi, p3, p15, p16, p17, p24, p25, p26]
              intro h; exact hn1 (hall h).2.1.1
          · obtain rfl : i = l.length := by omega
            simp [p3, p15, p16, p17, p24, p25, p26, hw]
            have e1 : namesB Ls (j + 1) [] 0 = namesB Ls j l l.length := by
              unfold namesB; rw [flat_take hl]; simp
            rw [List.take_of_length_le (Nat.le_refl _)] at hni
            refine ⟨by omega, by rw [e1], fun l' hl' => ?_, by rw [flat_take hl]; exact hni, by rw [e1]; omega, by rw [e1]⟩
            rw [take_snoc hl, List.mem_append, List.mem_singleton] at hl'
            rcases hl' with hl' | rfl
            · exact hlen l' hl'
            · omega
    · obtain rfl : j = 3 := by omega
      rw [← hl3, List.take_length] at hn hlen
      exact hP.2 ⟨hlen, hn⟩
theorem okD_all {c r e : List (ByteArray × Int)} {k : Nat} (h : okD k c ∧ okD k r ∧ okD k e) : ∀ l ∈ [c, r, e], ∀ d ∈ l, d.1.size ≤ k := by
  intro l hl d hd
  simp only [List.mem_cons, List.not_mem_nil, or_false] at hl
  rcases hl with rfl | rfl | rfl
  · exact h.1.2 d hd
  · exact h.2.1.2 d hd
  · exact h.2.2.2 d hd
theorem okD_mono {k k' : Nat} {l : List (ByteArray × Int)} (h : okD k l) (hk : k ≤ k') : okD k' l := ⟨Nat.le_trans h.1 hk, fun d hd => Nat.le_trans (h.2 d hd) hk⟩
end Go.Proofs.YtloodkhdngipbaaT
