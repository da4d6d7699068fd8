/- Texts of this session's own, one behind the other: Kh, Kw2, Ky2, Ky3. -/
import Derived.Test.YtmedelmfkciblaaPk10
/- Regs: whether they are right. -/
namespace Go.Proofs.YtmedelmfkciblaaT
set_option linter.unusedVariables false
set_option linter.unusedSimpArgs false
open Go

/- spec.RegOk -/
def c84 : TCode := (.seq (.ops [⟨(some 1), 3, .box 3 (.t 0), none, []⟩, ⟨(some 2), 4, .mv (.c (.b false)), none, []⟩])
  (.seq (.seq (.ops [⟨(some 6), 8, .faddr 0 1 (.t 1), none, []⟩, ⟨(some 7), 9, .load false 1 (.t 6), none, []⟩, ⟨(some 8), 10, .len false (.t 7), none, []⟩, ⟨(some 9), 11, .bin .gtr (.t 8) (.c (.i .i64 12)), none, []⟩, ⟨(some 10), 12, .mv (.t 9), none, []⟩, ⟨(some 11), 13, .faddr 1 1 (.t 1), (some (10, false)), []⟩, ⟨(some 12), 14, .load false 1 (.t 11), (some (10, false)), []⟩, ⟨(some 13), 15, .len false (.t 12), (some (10, false)), []⟩, ⟨(some 14), 16, .bin .gtr (.t 13) (.c (.i .i64 12)), (some (10, false)), []⟩, ⟨(some 15), 17, .pick (.t 10) (.c (.b true)) (.t 14), none, []⟩, ⟨(some 16), 18, .mv (.t 15), none, []⟩, ⟨(some 17), 19, .faddr 2 1 (.t 1), (some (16, false)), []⟩, ⟨(some 18), 20, .load false 1 (.t 17), (some (16, false)), []⟩, ⟨(some 19), 21, .len false (.t 18), (some (16, false)), []⟩, ⟨(some 20), 22, .bin .gtr (.t 19) (.c (.i .i64 12)), (some (16, false)), []⟩, ⟨(some 21), 23, .pick (.t 16) (.c (.b true)) (.t 20), none, []⟩])
  (.cond (.t 21)
  (.seq (.ops [⟨(some 2), 4, .mv (.c (.b false)), none, []⟩])
  .ret)
  .skip))
  (.seq (.draw [⟨(some 22), 24, .bslice 2 0 [(.s ⟨#[]⟩), (.i .i64 0)] [], none, []⟩, ⟨(some 23), 25, .faddr 0 1 (.t 1), none, [0]⟩, ⟨(some 24), 26, .load false 1 (.t 23), none, [0]⟩, ⟨(some 25), 27, .app 2 24 (.t 22) (.t 24), none, []⟩, ⟨(some 26), 28, .faddr 1 1 (.t 1), none, [0, 3]⟩, ⟨(some 27), 29, .load false 1 (.t 26), none, [0, 3]⟩, ⟨(some 28), 30, .app 2 24 (.t 25) (.t 27), none, []⟩, ⟨(some 29), 31, .faddr 2 1 (.t 1), none, [0, 3, 6]⟩, ⟨(some 30), 32, .load false 1 (.t 29), none, [0, 3, 6]⟩, ⟨(some 31), 33, .app 2 24 (.t 28) (.t 30), none, []⟩, ⟨(some 3), 5, .mv (.t 31), none, []⟩])
  (.seq (.seq (.ops [⟨(some 4), 6, .mv (.c (.i .i64 0)), none, []⟩])
  (.block 0 (.loop (.seq (.seq (.ops [⟨(some 32), 34, .mv (.t 4), none, []⟩, ⟨(some 33), 35, .mv (.t 3), none, []⟩, ⟨(some 34), 36, .len false (.t 33), none, []⟩, ⟨(some 35), 37, .bin .lss (.t 32) (.t 34), none, []⟩])
  (.cond (.t 35)
  .skip
  (.exit 0)))
  (.seq (.block 1 (.seq (.seq (.ops [⟨(some 38), 40, .mv (.t 3), none, []⟩, ⟨(some 39), 41, .mv (.t 4), none, []⟩, ⟨(some 40), 42, .iaddr 2 (.t 38) (.t 39), none, []⟩, ⟨(some 41), 43, .faddr 0 1 (.t 40), none, []⟩, ⟨(some 42), 44, .load false 1 (.t 41), none, []⟩, ⟨(some 43), 45, .call 145 [((.t 42), 0)], none, []⟩, ⟨(some 44), 46, .un .not (.t 43), none, []⟩, ⟨(some 45), 47, .mv (.t 44), none, []⟩, ⟨(some 46), 48, .mv (.t 3), (some (45, false)), []⟩, ⟨(some 47), 49, .mv (.t 4), (some (45, false)), []⟩, ⟨(some 48), 50, .iaddr 2 (.t 46) (.t 47), (some (45, false)), []⟩, ⟨(some 49), 51, .faddr 1 1 (.t 48), (some (45, false)), []⟩, ⟨(some 50), 52, .load false 1 (.t 49), (some (45, false)), []⟩, ⟨(some 51), 53, .call 87 [((.t 50), 0), ((.c (.i .i64 1)), 0), ((.c (.i .i64 4)), 0)], (some (45, false)), []⟩, ⟨(some 52), 54, .un .not (.t 51), (some (45, false)), []⟩, ⟨(some 53), 55, .pick (.t 45) (.c (.b true)) (.t 52), none, []⟩])
  (.cond (.t 53)
  (.seq (.ops [⟨(some 2), 4, .mv (.c (.b false)), none, []⟩])
  .ret)
  .skip))
  (.seq (.ops [⟨(some 5), 7, .mv (.c (.i .i64 0)), none, []⟩])
  (.block 2 (.loop (.seq (.seq (.ops [⟨(some 54), 56, .mv (.t 5), none, []⟩, ⟨(some 55), 57, .mv (.t 4), none, []⟩, ⟨(some 56), 58, .bin .lss (.t 54) (.t 55), none, []⟩])
  (.cond (.t 56)
  .skip
  (.exit 2)))
  (.seq (.block 3 (.seq (.draw [⟨(some 59), 61, .mv (.t 3), none, []⟩, ⟨(some 60), 62, .mv (.t 5), none, []⟩, ⟨(some 61), 63, .iaddr 2 (.t 59) (.t 60), none, []⟩, ⟨(some 62), 64, .faddr 0 1 (.t 61), none, []⟩, ⟨(some 63), 65, .load false 1 (.t 62), none, []⟩, ⟨(some 64), 66, .mv (.t 3), none, []⟩, ⟨(some 65), 67, .mv (.t 4), none, []⟩, ⟨(some 66), 68, .iaddr 2 (.t 64) (.t 65), none, []⟩, ⟨(some 67), 69, .faddr 0 1 (.t 66), none, []⟩, ⟨(some 68), 70, .load false 1 (.t 67), none, []⟩, ⟨(some 69), 71, .bin .eql (.t 63) (.t 68), none, []⟩])
  (.cond (.t 69)
  (.seq (.ops [⟨(some 2), 4, .mv (.c (.b false)), none, []⟩])
  .ret)
  .skip)))
  (.ops [⟨(some 57), 59, .mv (.t 5), none, []⟩, ⟨(some 58), 60, .bin .add (.t 57) (.c (.i .i64 1)), none, []⟩, ⟨(some 5), 7, .mv (.t 58), none, []⟩]))))))))
  (.ops [⟨(some 36), 38, .mv (.t 4), none, []⟩, ⟨(some 37), 39, .bin .add (.t 36) (.c (.i .i64 1)), none, []⟩, ⟨(some 4), 6, .mv (.t 37), none, []⟩]))))))
  (.seq (.ops [⟨(some 2), 4, .mv (.c (.b true)), none, []⟩])
  .ret)))))
theorem k84 : compCode Try.prog Try.f84.ntmps Try.f84.body.get! = some c84 := by kernel_rfl
theorem r84 : resTmps Try.prog Try.f84.results.toList = some [.tmp 2] := by kernel_rfl
/- impl.RegOk -/
def c91 : TCode := (.seq (.ops [⟨(some 1), 3, .box 3 (.t 0), none, []⟩, ⟨(some 2), 4, .mv (.c (.b false)), none, []⟩])
  (.seq (.ops [⟨(some 8), 10, .bslice 1 0 [(.s ⟨#[]⟩)] [], none, []⟩, ⟨(some 3), 5, .mv (.t 8), none, []⟩])
  (.seq (.seq (.ops [⟨(some 9), 11, .faddr 0 1 (.t 1), none, []⟩, ⟨(some 10), 12, .load false 1 (.t 9), none, []⟩, ⟨(some 11), 13, .faddr 1 1 (.t 1), none, []⟩, ⟨(some 12), 14, .load false 1 (.t 11), none, []⟩, ⟨(some 13), 15, .faddr 2 1 (.t 1), none, []⟩, ⟨(some 14), 16, .load false 1 (.t 13), none, []⟩, ⟨(some 15), 17, .bslice 1 3 [(.sl true 2 [])] [(0, (.t 10)), (1, (.t 12)), (2, (.t 14))], none, []⟩, ⟨(some 16), 18, .len false (.t 15), none, []⟩, ⟨(some 17), 19, .mv (.c (.i .i64 0)), none, []⟩])
  (.block 0 (.loop (.seq (.ops [⟨(some 18), 20, .bin .lss (.t 17) (.t 16), none, []⟩])
  (.seq (.cond (.t 18)
  .skip
  (.exit 0))
  (.seq (.block 1 (.seq (.ops [⟨(some 19), 21, .iaddr 1 (.t 15) (.t 17), none, []⟩, ⟨(some 20), 22, .load false 1 (.t 19), none, []⟩, ⟨(some 5), 7, .mv (.t 20), none, []⟩])
  (.seq (.seq (.ops [⟨(some 21), 23, .mv (.t 5), none, []⟩, ⟨(some 22), 24, .len false (.t 21), none, []⟩, ⟨(some 23), 25, .bin .gtr (.t 22) (.c (.i .i64 12)), none, []⟩])
  (.cond (.t 23)
  (.seq (.ops [⟨(some 2), 4, .mv (.c (.b false)), none, []⟩])
  .ret)
  .skip))
  (.seq (.ops [⟨(some 24), 26, .mv (.t 5), none, []⟩, ⟨(some 25), 27, .len false (.t 24), none, []⟩, ⟨(some 26), 28, .mv (.c (.i .i64 0)), none, []⟩])
  (.block 2 (.loop (.seq (.ops [⟨(some 27), 29, .bin .lss (.t 26) (.t 25), none, []⟩])
  (.seq (.cond (.t 27)
  .skip
  (.exit 2))
  (.seq (.block 3 (.seq (.ops [⟨(some 28), 30, .iaddr 2 (.t 24) (.t 26), none, []⟩, ⟨(some 29), 31, .load true 2 (.t 28), none, []⟩, ⟨(some 7), 9, .box 2 (.c (.ag [(.s ⟨#[]⟩), (.i .i64 0)])), none, []⟩, ⟨none, 1009003, .store 2 (.t 7) (.t 29), none, []⟩])
  (.seq (.seq (.ops [⟨(some 30), 32, .faddr 0 1 (.t 7), none, []⟩, ⟨(some 31), 33, .load false 1 (.t 30), none, []⟩, ⟨(some 32), 34, .call 149 [((.t 31), 0)], none, []⟩, ⟨(some 33), 35, .un .not (.t 32), none, []⟩, ⟨(some 34), 36, .mv (.t 33), none, []⟩, ⟨(some 35), 37, .mv (.t 3), (some (34, false)), []⟩, ⟨(some 36), 38, .faddr 0 1 (.t 7), (some (34, false)), []⟩, ⟨(some 37), 39, .load false 1 (.t 36), (some (34, false)), []⟩, ⟨(some 38), 40, .call 150 [((.t 35), 0), ((.t 37), 0)], (some (34, false)), []⟩, ⟨(some 39), 41, .pick (.t 34) (.c (.b true)) (.t 38), none, []⟩, ⟨(some 40), 42, .mv (.t 39), none, []⟩, ⟨(some 41), 43, .faddr 1 1 (.t 7), (some (40, false)), []⟩, ⟨(some 42), 44, .load false 1 (.t 41), (some (40, false)), []⟩, ⟨(some 43), 45, .call 151 [((.t 42), 0)], (some (40, false)), []⟩, ⟨(some 44), 46, .un .not (.t 43), (some (40, false)), []⟩, ⟨(some 45), 47, .pick (.t 40) (.c (.b true)) (.t 44), none, []⟩])
  (.cond (.t 45)
  (.seq (.ops [⟨(some 2), 4, .mv (.c (.b false)), none, []⟩])
  .ret)
  .skip))
  (.ops [⟨(some 46), 48, .mv (.t 3), none, []⟩, ⟨(some 47), 49, .faddr 0 1 (.t 7), none, []⟩, ⟨(some 48), 50, .load false 1 (.t 47), none, []⟩, ⟨(some 49), 51, .bslice 1 1 [(.s ⟨#[]⟩)] [(0, (.t 48))], none, []⟩, ⟨(some 50), 52, .app 1 16 (.t 46) (.t 49), none, []⟩, ⟨(some 3), 5, .mv (.t 50), none, []⟩]))))
  (.ops [⟨(some 51), 53, .bin .add (.t 26) (.c (.i .i64 1)), none, []⟩, ⟨(some 26), 28, .mv (.t 51), none, []⟩]))))))))))
  (.ops [⟨(some 52), 54, .bin .add (.t 17) (.c (.i .i64 1)), none, []⟩, ⟨(some 17), 19, .mv (.t 52), none, []⟩])))))))
  (.seq (.ops [⟨(some 2), 4, .mv (.c (.b true)), none, []⟩])
  .ret))))
theorem k91 : compCode Try.prog Try.f91.ntmps Try.f91.body.get! = some c91 := by kernel_rfl
theorem r91 : resTmps Try.prog Try.f91.results.toList = some [.tmp 2] := by kernel_rfl
/- slices.Index[[]string,string] -/
def c190 : TCode := (.seq (.ops [⟨(some 4), 6, .mv (.c (.i .i64 0)), none, []⟩])
  (.seq (.seq (.ops [⟨(some 6), 8, .mv (.t 0), none, []⟩, ⟨(some 7), 9, .len false (.t 6), none, []⟩, ⟨(some 8), 10, .mv (.c (.i .i64 0)), none, []⟩])
  (.block 0 (.loop (.seq (.ops [⟨(some 9), 11, .bin .lss (.t 8) (.t 7), none, []⟩])
  (.seq (.cond (.t 9)
  .skip
  (.exit 0))
  (.seq (.block 1 (.seq (.ops [⟨(some 10), 12, .mv (.t 8), none, []⟩, ⟨(some 5), 7, .mv (.t 10), none, []⟩])
  (.seq (.ops [⟨(some 11), 13, .mv (.t 1), none, []⟩, ⟨(some 12), 14, .mv (.t 0), none, []⟩, ⟨(some 13), 15, .mv (.t 5), none, []⟩, ⟨(some 14), 16, .iaddr 1 (.t 12) (.t 13), none, []⟩, ⟨(some 15), 17, .load false 1 (.t 14), none, []⟩, ⟨(some 16), 18, .bin .eql (.t 11) (.t 15), none, []⟩])
  (.cond (.t 16)
  (.seq (.ops [⟨(some 17), 19, .mv (.t 5), none, []⟩, ⟨(some 4), 6, .mv (.t 17), none, []⟩])
  .ret)
  .skip))))
  (.ops [⟨(some 18), 20, .bin .add (.t 8) (.c (.i .i64 1)), none, []⟩, ⟨(some 8), 10, .mv (.t 18), none, []⟩])))))))
  (.seq (.ops [⟨(some 4), 6, .mv (.c (.i .i64 (-1))), none, []⟩])
  .ret)))
theorem k190 : compCode Try.prog Try.f190.ntmps Try.f190.body.get! = some c190 := by kernel_rfl
theorem r190 : resTmps Try.prog Try.f190.results.toList = some [.tmp 4] := by kernel_rfl
/- slices.Contains[[]string,string] -/
def c150 : TCode := (.seq (.ops [⟨(some 4), 6, .mv (.c (.b false)), none, []⟩])
  (.seq (.ops [⟨(some 5), 7, .mv (.t 0), none, []⟩, ⟨(some 6), 8, .mv (.t 1), none, []⟩, ⟨(some 7), 9, .call 190 [((.t 5), 0), ((.t 6), 0)], none, []⟩, ⟨(some 8), 10, .bin .geq (.t 7) (.c (.i .i64 0)), none, []⟩, ⟨(some 4), 6, .mv (.t 8), none, []⟩])
  .ret))
theorem k150 : compCode Try.prog Try.f150.ntmps Try.f150.body.get! = some c150 := by kernel_rfl
theorem r150 : resTmps Try.prog Try.f150.results.toList = some [.tmp 4] := by kernel_rfl

/-- The place of the first that is meant, or -1. -/
def idxP {α : Type} (p : α → Bool) (l : List α) : Int := match l.findIdx? p with
  | some i => i
  | none => -1
theorem idxP_at {α : Type} {p : α → Bool} {l : List α} {x : α} {j : Nat} (h : l[j]? = some x) (hp : p x = true) (hn : ∀ y ∈ l.take j, p y = false) : idxP p l = j := by
  have hj := (List.getElem?_eq_some_iff.1 h).1
  have : l.findIdx? p = some j := by
    rw [List.findIdx?_eq_some_iff_getElem]
    refine ⟨hj, by rw [(List.getElem?_eq_some_iff.1 h).2]; exact hp, fun k hk => ?_⟩
    have := hn (l[k]) (by rw [List.mem_take_iff_getElem]; exact ⟨k, by omega, rfl⟩)
    simp [this]
  simp [idxP, this]
theorem idxP_none {α : Type} {p : α → Bool} {l : List α} (h : ∀ y ∈ l, p y = false) : idxP p l = -1 := by
  have : l.findIdx? p = none := by rw [List.findIdx?_eq_none_iff]; exact fun x hx => by simp [h x hx]
  simp [idxP, this]
theorem idxP_ge {α : Type} {p : α → Bool} {l : List α} : 0 ≤ idxP p l ↔ ∃ y ∈ l, p y = true := by
  unfold idxP
  split
  · rename_i i hi
    rw [List.findIdx?_eq_some_iff_getElem] at hi
    obtain ⟨h1, h2, _⟩ := hi
    exact ⟨fun _ => ⟨l[i], List.getElem_mem h1, h2⟩, fun _ => by omega⟩
  · rename_i hi
    rw [List.findIdx?_eq_none_iff] at hi
    exact ⟨fun h => by omega, fun ⟨y, h1, h2⟩ => by have := hi y h1; simp [h2] at this⟩
theorem w190 (l : List ByteArray) (x : ByteArray) (hl : l.length ≤ 2^40) : Contract Try.prog false 190 [.ro, .ro] [.sl false 1 (l.map sT), .s x] [.i .i64 (idxP (fun y => decide (x = y)) l)] [] := by
  refine mk_contract [] Try.func190 (c := Try.f190.body.get!) (by kernel_rfl) k190 r190 (of_decide_eq_true rfl) fun _ => ?_
  unfold c190; simp
  refine twp_for l.length (fun j s => s.t 0 = .sl false 1 (l.map sT) ∧ s.t 1 = .s x ∧ s.t 7 = .i .i64 l.length ∧ s.t 8 = .i .i64 j ∧ (∀ y ∈ l.take j, decide (x = y) = false) ∧ s.H = lk [(1, [])]) [] (by simp) ?_ ?_
  · simp
  · rintro j s hj ⟨q0, q1, q7, q8, hn, qH⟩
    rw [nf_of qH]
    simp [q0, q1, q7, q8]
    refine ⟨fun hlt => ?_, fun hge => ?_⟩
    · have hw : IntKind.i64.wrap (j + 1) = j + 1 := wrap_id (by omega) (by omega)
      obtain ⟨y, hy⟩ := get_some hlt
      simp [hy, hw, q0, q1, q7, q8]
      refine ⟨fun h => (idxP_at hy (by simp [h]) hn).symm, fun h => ⟨hlt, fun z hz => ?_⟩⟩
      rw [take_snoc hy, List.mem_append, List.mem_singleton] at hz
      rcases hz with hz | rfl
      · simpa using hn z hz
      · exact h
    · obtain rfl : j = l.length := by omega
      rw [List.take_of_length_le (Nat.le_refl _)] at hn
      exact (idxP_none hn).symm
theorem w150 (l : List ByteArray) (x : ByteArray) (hl : l.length ≤ 2^40) : Contract Try.prog false 150 [.ro, .ro] [.sl false 1 (l.map sT), .s x] [.b (decide (x ∈ l))] [] := by
  refine mk_contract [] Try.func150 (c := Try.f150.body.get!) (by kernel_rfl) k150 r150 (of_decide_eq_true rfl) fun _ => ?_
  unfold c150; simp
  refine callW_ms [.ro, .ro] ?_
  simp
  refine callX_of (w190 l x hl) (by simp) ?_
  simp [idxP_ge]

def goodD (d : ByteArray × Int) : Prop := nameP d.1 ∧ 1 ≤ d.2 ∧ d.2 ≤ 4
/-- What is right of all declarations. -/
def okPre (l : List (ByteArray × Int)) : Prop := (∀ d ∈ l, goodD d) ∧ (l.map (·.1)).Nodup
noncomputable instance okPreD (l : List (ByteArray × Int)) : Decidable (okPre l) := Classical.propDecidable _
def RegOkP (c r e : List (ByteArray × Int)) : Prop := (c.length ≤ 12 ∧ r.length ≤ 12 ∧ e.length ≤ 12) ∧ okPre (c ++ r ++ e)
noncomputable instance (c r e : List (ByteArray × Int)) : Decidable (RegOkP c r e) := Classical.propDecidable _
theorem okPre_snoc {l : List (ByteArray × Int)} {d : ByteArray × Int} : okPre (l ++ [d]) ↔ okPre l ∧ goodD d ∧ d.1 ∉ l.map (·.1) := by
  unfold okPre
  simp only [List.mem_append, List.mem_singleton, List.map_append, List.map_cons, List.map_nil, List.nodup_append, List.nodup_cons]
  constructor
  · rintro ⟨h1, h2, _, h3⟩
    exact ⟨⟨fun y hy => h1 y (.inl hy), h2⟩, h1 d (.inr rfl), fun hx => h3 _ hx _ (by simp) rfl⟩
  · rintro ⟨⟨h1, h2⟩, h3, h4⟩
    refine ⟨fun y hy => ?_, h2, by simp, fun y hy z hz => ?_⟩
    · rcases hy with hy | rfl
      · exact h1 y hy
      · exact h3
    · subst hz; rintro rfl; exact h4 hy
theorem okPre_take {l : List (ByteArray × Int)} (h : okPre l) (j : Nat) : okPre (l.take j) :=
  ⟨fun x hx => h.1 x (List.mem_of_mem_take hx), by rw [List.map_take]; exact h.2.sublist (List.take_sublist j _)⟩

theorem w84 (c r e : List (ByteArray × Int)) (hc : c.length ≤ 2^40) (hr : r.length ≤ 2^40) (he : e.length ≤ 2^40) : Contract Try.prog false 84 [.ro] [regR c r e] [.b (decide (RegOkP c r e))] [] := by
  refine mk_contract [] Try.func84 (c := Try.f84.body.get!) (by kernel_rfl) k84 r84 (of_decide_eq_true rfl) fun _ => ?_
  unfold c84; unfold regR; simp
  by_cases h1 : (12 : Int) < c.length
  · have : ¬ RegOkP c r e := fun h => by have := h.1.1; omega
    simp [h1, this]
  by_cases h2 : (12 : Int) < r.length
  · have : ¬ RegOkP c r e := fun h => by have := h.1.2.1; omega
    simp [h1, h2, this]
  by_cases h3 : (12 : Int) < e.length
  · have : ¬ RegOkP c r e := fun h => by have := h.1.2.2; omega
    simp [h1, h2, h3, this]
  simp [h1, h2, h3]
  refine ⟨by omega, by omega, by omega, ?_⟩
  obtain ⟨L, hL⟩ : ∃ L, L = c ++ r ++ e := ⟨_, rfl⟩
  have hLl : L.length ≤ 36 := by subst hL; simp; omega
  have hP : RegOkP c r e ↔ okPre L := by subst hL; exact ⟨fun h => h.2, fun h => ⟨by omega, h⟩⟩
  rw [show decide (RegOkP c r e) = decide (okPre L) from decide_eq_decide.2 hP]
  refine twp_for L.length (fun j s => s.t 3 = .rf [(33, 0)] 0 L.length ∧ s.t 4 = .i .i64 j ∧ okPre (L.take j) ∧ s.H = lk [(1, []), (3, [.po true [.sl false 2 (c.map dT), .sl false 2 (r.map dT), .sl false 2 (e.map dT)]]), (33, [.sl true 2 (L.map dT)])]) [24, 27, 30] (by simp) ?_ ?_
  · simp [hL, okPre, Nat.add_assoc]
  · rintro j s hj ⟨q3, q4, hn, qH⟩
    rw [nf_of qH]
    simp [q3, q4]
    refine ⟨fun hlt => ?_, fun hge => ?_⟩
    · have hw : IntKind.i64.wrap (j + 1) = j + 1 := wrap_id (by omega) (by omega)
      obtain ⟨x, hx⟩ := get_some hlt
      simp [hx, hw, q3, q4]
      have hbad : okPre L → goodD x := fun h => h.1 x (List.mem_of_getElem? hx)
      refine ⟨hlt, ?_⟩
      by_cases hn1 : nameP x.1
      · refine callW_ms [.ro] ?_
        simp
        refine callX_of ((w145 x.1).t hn1) (by simp) ?_
        simp [hw, q3, q4, hx]
        refine ⟨hlt, ?_⟩
        by_cases hk : 1 ≤ x.2 ∧ x.2 ≤ 4
        · refine callW_ms [.ro, .ro, .ro] ?_
          simp
          refine callX_of ((w87 x.2 1 4).t hk) (by simp) ?_
          simp [hw, q3, q4, hx]
          refine twp_for j (fun i s2 => s2.t 3 = .rf [(33, 0)] 0 L.length ∧ s2.t 4 = .i .i64 j ∧ s2.t 5 = .i .i64 i ∧ (∀ d ∈ L.take i, d.1 ≠ x.1) ∧ s2.H = lk [(1, []), (3, [.po true [.sl false 2 (c.map dT), .sl false 2 (r.map dT), .sl false 2 (e.map dT)]]), (33, [.sl true 2 (L.map dT)])]) [] (by simp) ?_ ?_
          · simp [q3, q4]
          · rintro i s2 hi ⟨p3, p4, p5, hd, pH⟩
            rw [nf_of pH]
            simp [p3, p4, p5]
            refine ⟨fun hlt2 => ?_, fun hge2 => ?_⟩
            · have hwi : IntKind.i64.wrap (i + 1) = i + 1 := wrap_id (by omega) (by omega)
              obtain ⟨y, hy⟩ := get_some (l := L) (j := i) (by omega)
              simp [hy, hwi, hx, p3, p4, p5]
              refine ⟨by omega, hlt, ?_⟩
              refine ⟨fun h h2 => ?_, fun h => ⟨hlt2, fun a b hab => ?_⟩⟩
              · have h3 := okPre_take h2 (j + 1)
                rw [take_snoc hx, okPre_snoc] at h3
                refine h3.2.2 (List.mem_map.2 ⟨y, ?_, h⟩)
                rw [List.mem_take_iff_getElem]
                exact ⟨i, by omega, (List.getElem?_eq_some_iff.1 hy).2⟩
              · rw [take_snoc hy, List.mem_append, List.mem_singleton] at hab
                rcases hab with hab | hab
                · exact hd _ hab
                · rw [show a = y.1 by rw [← hab]]; exact h
            · obtain rfl : i = j := by omega
              simp [p3, p4, p5, hw]
              refine ⟨hlt, ?_⟩
              rw [take_snoc hx, okPre_snoc]
              refine ⟨hn, ⟨hn1, hk⟩, fun h => ?_⟩
              obtain ⟨d, hd1, hd2⟩ := List.mem_map.1 h
              exact hd d hd1 hd2
        · refine callW_ms [.ro, .ro, .ro] ?_
          simp
          refine callX_of ((w87 x.2 1 4).f hk) (by simp) ?_
          simp [hw, q3, q4, hx]
          intro h; exact hk (hbad h).2
      · refine callW_ms [.ro] ?_
        simp
        refine callX_of ((w145 x.1).f hn1) (by simp) ?_
        simp [hw, q3, q4, hx]
        intro h; exact hn1 (hbad h).1
    · obtain rfl : j = L.length := by omega
      rw [List.take_of_length_le (Nat.le_refl _)] at hn
      exact hn

theorem okPre_flat {c r e : List (ByteArray × Int)} : RegOkP c r e ↔ (∀ l ∈ [c, r, e], l.length ≤ 12) ∧ okPre ([c, r, e].flatten) := by
  unfold RegOkP; simp [List.append_assoc]
theorem flat_take {α : Type} {Ls : List (List α)} {j : Nat} {l : List α} (h : Ls[j]? = some l) : (Ls.take (j + 1)).flatten = (Ls.take j).flatten ++ l := by
  rw [take_snoc h]; simp
theorem okPre_left {a b : List (ByteArray × Int)} (h : okPre (a ++ b)) : okPre a := by
  have := okPre_take h a.length; simpa using this
theorem flat_left {α : Type} (Ls : List (List α)) (j : Nat) : ∃ b, Ls.flatten = (Ls.take j).flatten ++ b := ⟨(Ls.drop j).flatten, by rw [← List.flatten_append, List.take_append_drop]⟩
def namesB (Ls : List (List (ByteArray × Int))) (j : Nat) (l : List (ByteArray × Int)) (i : Nat) : List ByteArray := ((Ls.take j).flatten ++ l.take i).map (·.1)
theorem w91 (c r e : List (ByteArray × Int)) (hc : c.length ≤ 2^40) (hr : r.length ≤ 2^40) (he : e.length ≤ 2^40) (hs : ∀ l ∈ [c, r, e], ∀ d ∈ l, d.1.size ≤ 2^40) : Contract Try.prog false 91 [.ro] [regR c r e] [.b (decide (RegOkP c r e))] [] := by
  refine mk_contract [] Try.func91 (c := Try.f91.body.get!) (by kernel_rfl) k91 r91 (of_decide_eq_true rfl) fun _ => ?_
  unfold c91; unfold regR; simp
  have hP := okPre_flat (c := c) (r := r) (e := e)
  obtain ⟨Ls, hLs⟩ : ∃ Ls, Ls = [c, r, e] := ⟨_, rfl⟩
  have hl3 : Ls.length = 3 := by subst hLs; rfl
  have hlb : ∀ l ∈ Ls, l.length ≤ 2^40 := by subst hLs; simp; omega
  rw [← hLs] at hP hs
  refine twp_forR 3 (fun j s => s.t 3 = .rf [(52, 0)] 0 (namesB Ls j [] 0).length ∧ s.t 15 = .rf [(17, 0)] 0 3 ∧ s.t 16 = .i .i64 3 ∧ s.t 17 = .i .i64 j ∧ (∀ l ∈ Ls.take j, l.length ≤ 12) ∧ okPre (Ls.take j).flatten ∧ (namesB Ls j [] 0).length ≤ 12 * j ∧ s.H = lk [(1, []), (3, [.po true [.sl false 2 (c.map dT), .sl false 2 (r.map dT), .sl false 2 (e.map dT)]]), (52, [.sl true 1 ((namesB Ls j [] 0).map sT)]), (17, [.sl true 1 (Ls.map fun l => [.sl false 2 (l.map dT)])])]) [] [(10, 52)] (by simp) (by simp) ?_ ?_
  · simp [hLs, okPre, namesB]
  · rintro j s hj ⟨q3, q15, q16, q17, hlen, hn, hnl, qH⟩
    rw [nf_of qH]
    simp [q3, q15, q16, q17]
    refine ⟨fun hlt => ?_, fun hge => ?_⟩
    · have hw : IntKind.i64.wrap (j + 1) = j + 1 := wrap_id (by omega) (by omega)
      obtain ⟨l, hl⟩ := get_some (l := Ls) (j := j) (by omega)
      have hlm := List.mem_of_getElem? hl
      have hl40 := hlb l hlm
      simp [hl, hw, q3, q15, q16, q17]
      by_cases h12 : (12 : Int) < l.length
      · have : ¬ RegOkP c r e := fun h => by have := (hP.1 h).1 l hlm; omega
        simp [h12, this]
        omega
      · simp [h12]
        refine ⟨by omega, fun _ => ?_⟩
        refine twp_for l.length (fun i s2 => s2.t 3 = .rf [(52, 0)] 0 (namesB Ls j l i).length ∧ s2.t 15 = .rf [(17, 0)] 0 3 ∧ s2.t 16 = .i .i64 3 ∧ s2.t 17 = .i .i64 j ∧ s2.t 24 = .sl false 2 (l.map dT) ∧ s2.t 25 = .i .i64 l.length ∧ s2.t 26 = .i .i64 i ∧ okPre ((Ls.take j).flatten ++ l.take i) ∧ (namesB Ls j l i).length ≤ 12 * j + i ∧ s2.H = lk [(1, []), (3, [.po true [.sl false 2 (c.map dT), .sl false 2 (r.map dT), .sl false 2 (e.map dT)]]), (52, [.sl true 1 ((namesB Ls j l i).map sT)]), (17, [.sl true 1 (Ls.map fun l => [.sl false 2 (l.map dT)])])]) [9, 51] (by simp) ?_ ?_
        · have e : namesB Ls j l 0 = namesB Ls j [] 0 := by simp [namesB]
          simp [q3, q15, q16, q17, hn, hnl, e]
        · rintro i s2 hi ⟨p3, p15, p16, p17, p24, p25, p26, hni, hnli, pH⟩
          rw [nf_of pH]
          simp [p3, p15, p16, p17, p24, p25, p26]
          refine ⟨fun hlt2 => ?_, fun hge2 => ?_⟩
          · have hwi : IntKind.i64.wrap (i + 1) = i + 1 := wrap_id (by omega) (by omega)
            obtain ⟨d, hd⟩ := get_some hlt2
            have hdm := List.mem_of_getElem? hd
            have hall : RegOkP c r e → okPre ((Ls.take j).flatten ++ l.take i ++ [d]) := fun h => by
              have h2 := (hP.1 h).2
              obtain ⟨b, hb⟩ := flat_left Ls (j + 1)
              rw [hb, flat_take hl] at h2
              have h3 := okPre_left h2
              rw [← List.take_append_drop (i + 1) l, take_snoc hd] at h3
              rw [← List.append_assoc, ← List.append_assoc] at h3
              exact okPre_left h3
            rw [okPre_snoc] at hall
            have hmem : (d.1 ∈ ((Ls.take j).flatten ++ l.take i).map (·.1)) ↔ d.1 ∈ namesB Ls j l i := Iff.rfl
            rw [hmem] at hall
            simp [hd, hwi, p3, p15, p16, p17, p24, p25, p26]
            by_cases hn1 : nameP d.1
            · refine callW_ms [.ro] ?_
              simp
              refine callX_of ((w149 d.1 (hs l hlm d hdm)).t hn1) (by simp) ?_
              simp [hwi, p3, p15, p16, p17, p24, p25, p26]
              by_cases hm : d.1 ∈ namesB Ls j l i
              · refine callW_ms [.ro, .ro] ?_
                simp
                refine callX_of ((w150 (namesB Ls j l i) d.1 (by omega)).t hm) (by simp) ?_
                simp [hwi, p3, p15, p16, p17, p24, p25, p26]
                intro h; exact (hall h).2.2 hm
              · refine callW_ms [.ro, .ro] ?_
                simp
                refine callX_of ((w150 (namesB Ls j l i) d.1 (by omega)).f hm) (by simp) ?_
                simp [hwi, p3, p15, p16, p17, p24, p25, p26]
                by_cases hk : 1 ≤ d.2 ∧ d.2 ≤ 4
                · refine callW_ms [.ro] ?_
                  simp
                  refine callX_of ((w151 d.2).t hk) (by simp) ?_
                  simp [hwi, p3, p15, p16, p17, p24, p25, p26]
                  have e1 : namesB Ls j l (i + 1) = namesB Ls j l i ++ [d.1] := by
                    unfold namesB; rw [take_snoc hd, ← List.append_assoc, List.map_append]; rfl
                  refine ⟨by omega, hlt2, by rw [e1]; simp, ?_, by rw [e1]; simp; omega, by rw [e1]; simp⟩
                  rw [take_snoc hd, ← List.append_assoc, okPre_snoc]
                  exact ⟨hni, ⟨hn1, hk⟩, hm⟩
                · refine callW_ms [.ro] ?_
                  simp
                  refine callX_of ((w151 d.2).f hk) (by simp) ?_
                  simp [hwi, p3, p15, p16, p17, p24, p25, p26]
                  intro h; exact hk (hall h).2.1.2
            · refine callW_ms [.ro] ?_
              simp
              refine callX_of ((w149 d.1 (hs l hlm d hdm)).f hn1) (by simp) ?_
              simp [hwi, p3, p15, p16, p17, p24, p25, p26]
              intro h; exact hn1 (hall h).2.1.1
          · obtain rfl : i = l.length := by omega
            simp [p3, p15, p16, p17, p24, p25, p26, hw]
            have e1 : namesB Ls (j + 1) [] 0 = namesB Ls j l l.length := by
              unfold namesB; rw [flat_take hl]; simp
            rw [List.take_of_length_le (Nat.le_refl _)] at hni
            refine ⟨by omega, by rw [e1], fun l' hl' => ?_, by rw [flat_take hl]; exact hni, by rw [e1]; omega, by rw [e1]⟩
            rw [take_snoc hl, List.mem_append, List.mem_singleton] at hl'
            rcases hl' with hl' | rfl
            · exact hlen l' hl'
            · omega
    · obtain rfl : j = 3 := by omega
      rw [← hl3, List.take_length] at hn hlen
      exact hP.2 ⟨hlen, hn⟩
theorem okD_all {c r e : List (ByteArray × Int)} {k : Nat} (h : okD k c ∧ okD k r ∧ okD k e) : ∀ l ∈ [c, r, e], ∀ d ∈ l, d.1.size ≤ k := by
  intro l hl d hd
  simp only [List.mem_cons, List.not_mem_nil, or_false] at hl
  rcases hl with rfl | rfl | rfl
  · exact h.1.2 d hd
  · exact h.2.1.2 d hd
  · exact h.2.2.2 d hd
theorem okD_mono {k k' : Nat} {l : List (ByteArray × Int)} (h : okD k l) (hk : k ≤ k') : okD k' l := ⟨Nat.le_trans h.1 hk, fun d hd => Nat.le_trans (h.2 d hd) hk⟩
end Go.Proofs.YtmedelmfkciblaaT

/- Streams: right, turned, sent to, read. -/
namespace Go.Proofs.YtmedelmfkciblaaT
set_option linter.unusedVariables false
set_option linter.unusedSimpArgs false
open Go

/- impl.isOf -/
def c193 : TCode := (.seq (.ops [⟨(some 2), 4, .box 4 (.t 0), none, []⟩, ⟨(some 4), 6, .mv (.c (.b false)), none, []⟩])
  (.seq (.ops [⟨(some 5), 7, .faddr 0 1 (.t 2), none, []⟩, ⟨(some 6), 8, .load false 1 (.t 5), none, []⟩, ⟨(some 7), 9, .mv (.t 1), none, []⟩, ⟨(some 8), 10, .bin .eql (.t 6) (.t 7), none, []⟩, ⟨(some 9), 11, .mv (.t 8), none, []⟩, ⟨(some 10), 12, .load true 4 (.t 2), (some (9, true)), []⟩, ⟨(some 11), 13, .call 224 [((.t 10), 0)], (some (9, true)), []⟩, ⟨(some 12), 14, .pick (.t 9) (.t 11) (.c (.b false)), none, []⟩, ⟨(some 4), 6, .mv (.t 12), none, []⟩])
  .ret))
theorem k193 : compCode Try.prog Try.f193.ntmps Try.f193.body.get! = some c193 := by kernel_rfl
theorem r193 : resTmps Try.prog Try.f193.results.toList = some [.tmp 4] := by kernel_rfl

/-- A stream: first, old, new. -/
abbrev StrP := Int × List ValP × List ValP
def strR (s : StrP) : TV := .ag [.i .i64 s.1, .sl false 4 (s.2.1.map vT), .sl false 4 (s.2.2.map vT)]
def strO (s : StrP) : TV := .ag [.i .i64 s.1, .sl true 4 (s.2.1.map vT), .sl true 4 (s.2.2.map vT)]
def strB (k : Nat) (s : StrP) : Prop := s.2.1.length ≤ k ∧ s.2.2.length ≤ k
def valsF (l : List ValP) : Prop := ∀ v ∈ l, valOkF v
def szStrF (s : StrP) (n : Int) : Int := if szF n s.2.1.length < 0 then -1 else szF (szF n s.2.1.length) s.2.2.length
theorem szStr_ok {s : StrP} {n : Int} {k : Nat} (h0 : 0 ≤ n) (hk : n ≤ k) (h : ¬ szStrF s n < 0) : 0 ≤ szStrF s n ∧ szStrF s n ≤ n ∧ strB k s := by
  unfold szStrF at h ⊢
  split at h
  · omega
  · rename_i h1
    rw [if_neg h1]
    obtain ⟨a1, a2⟩ := szF_pos (by omega : 0 ≤ szF n s.2.1.length)
    obtain ⟨b1, b2⟩ := szF_pos (by omega : 0 ≤ szF (szF n s.2.1.length) s.2.2.length)
    exact ⟨by omega, by omega, by omega, by omega⟩
def ofK (k : Int) (v : ValP) : Prop := v.1 = k ∧ ValOkP v
instance (k : Int) (v : ValP) : Decidable (ofK k v) := by unfold ofK; infer_instance
def allOf (k : Int) (l : List ValP) : Prop := (∀ v ∈ l, ofK k v) ∧ l.length ≤ 200
instance (k : Int) (l : List ValP) : Decidable (allOf k l) := by unfold allOf; infer_instance
def StrOkP (k : Int) (s : StrP) : Prop := (0 ≤ s.1 ∧ s.1 ≤ 1000000000000) ∧ allOf k s.2.1 ∧ allOf k s.2.2
instance (k : Int) (s : StrP) : Decidable (StrOkP k s) := by unfold StrOkP; infer_instance
theorem w193 (v : ValP) (k : Int) : Contract Try.prog false 193 [.ro, .ro] [valV v, .i .i64 k] [.b (decide (ofK k v))] [] := by
  refine mk_contract [] Try.func193 (c := Try.f193.body.get!) (by kernel_rfl) k193 r193 (of_decide_eq_true rfl) fun _ => ?_
  obtain ⟨v1, v2⟩ := v
  unfold c193; unfold valV; simp
  by_cases h : v1 = k
  · subst h
    simp
    refine callW_ms [.ro] ?_
    simp
    refine callX_of (w224 (v1, v2)) (by simp) ?_
    simp [ofK]
  · simp [h, ofK]
theorem allOf_take {k : Int} {l : List ValP} (h : allOf k l) (x : ValP) (hx : x ∈ l) : ofK k x := h.1 x hx
def turnS (s : StrP) : StrP := (if 0 ≤ s.1 ∧ s.1 ≤ 1000000000000 - (s.2.1.length : Int) then s.1 + s.2.1.length else 0, s.2.2, [])
def sendS (k : Int) (s : StrP) (v : ValP) : StrP × Bool := if StrOkP k s ∧ ofK k v ∧ s.2.2.length < 200 then ((s.1, s.2.1, s.2.2 ++ [v]), true) else (s, false)
theorem sendS_len (k : Int) (s : StrP) (v : ValP) : (sendS k s v).1.2.1.length = s.2.1.length ∧ (sendS k s v).1.2.2.length ≤ s.2.2.length + 1 := by
  unfold sendS; split <;> simp
end Go.Proofs.YtmedelmfkciblaaT

/- Cells that fit, sorted by their columns: the plain law. -/
namespace Go.Proofs.YtmedelmfkciblaaT
set_option linter.unusedVariables false
set_option linter.unusedSimpArgs false
open Go

abbrev DclP := ByteArray × Int
/-- A column's number with a right value of its kind. -/
def fitP (c : List DclP) (k : Int) (v : ValP) : Prop := (0 ≤ k ∧ k ≤ (c.length : Int) - 1) ∧ ValOkP v ∧ (c[k.toNat]?).map (·.2) = some v.1
instance (c : List DclP) (k : Int) (v : ValP) : Decidable (fitP c k v) := by unfold fitP; infer_instance
def cellsP (c : List DclP) (l : List CellP) : Prop := (∀ x ∈ l, fitP c x.1 x.2) ∧ (l.map (·.1)).Nodup
instance (c : List DclP) (l : List CellP) : Decidable (cellsP c l) := by unfold cellsP; infer_instance
def isC (k : Nat) (x : CellP) : Bool := decide (x.1 = (k : Int))
def inC (n : Nat) (x : CellP) : Bool := decide (0 ≤ x.1 ∧ x.1 < (n : Int))
def sortC : Nat → List CellP → List CellP
  | 0, _ => []
  | n + 1, l => sortC n l ++ l.filter (isC n)
theorem perm_or {α : Type} {p q r : α → Bool} (h : ∀ x, ¬ (p x = true ∧ q x = true)) (hr : ∀ x, r x = (p x || q x)) : ∀ l : List α, (l.filter p ++ l.filter q).Perm (l.filter r)
  | [] => by simp
  | x :: l => by
    have ih := perm_or h hr l
    have hx := h x
    have hrx := hr x
    cases hp : p x with
    | true =>
      cases hq : q x with
      | true => exact absurd ⟨hp, hq⟩ hx
      | false =>
        rw [hp, hq] at hrx
        simp only [List.filter_cons, hp, hq, hrx, Bool.or_false, if_true, List.cons_append]
        exact ih.cons x
    | false =>
      cases hq : q x with
      | true =>
        rw [hp, hq] at hrx
        simp only [List.filter_cons, hp, hq, hrx, Bool.or_true, if_true]
        exact List.perm_middle.trans (ih.cons x)
      | false =>
        rw [hp, hq] at hrx
        simp only [List.filter_cons, hp, hq, hrx, Bool.or_false]
        exact ih
theorem sortC_perm (l : List CellP) : ∀ n : Nat, (sortC n l).Perm (l.filter (inC n))
  | 0 => by
    have : l.filter (inC 0) = [] := by rw [List.filter_eq_nil_iff]; intro x _; simp [inC]
    rw [this]; exact List.Perm.refl _
  | n + 1 => by
    refine ((sortC_perm l n).append_right _).trans (perm_or (fun x h => ?_) (fun x => ?_) l)
    · simp [inC, isC] at h; omega
    · rw [Bool.eq_iff_iff]; simp [inC, isC]; omega
theorem sortC_len (n : Nat) (l : List CellP) : (sortC n l).length ≤ l.length := by
  rw [(sortC_perm l n).length_eq]; exact List.length_filter_le _ _
theorem sortC_mem {n : Nat} {l : List CellP} {x : CellP} (h : x ∈ sortC n l) : x ∈ l ∧ 0 ≤ x.1 ∧ x.1 < n := by
  have := (sortC_perm l n).mem_iff.1 h
  rw [List.mem_filter] at this
  exact ⟨this.1, by simpa [inC] using this.2⟩
theorem sortC_le (l : List CellP) : ∀ n : Nat, (sortC n l).Pairwise (fun x y => x.1 ≤ y.1)
  | 0 => List.Pairwise.nil
  | n + 1 => by
    show (sortC n l ++ l.filter (isC n)).Pairwise _
    rw [List.pairwise_append]
    refine ⟨sortC_le l n, ?_, fun x hx y hy => ?_⟩
    · rw [List.pairwise_iff_getElem]
      intro i j hi hj _
      have h1 := (List.mem_filter.1 (List.getElem_mem hi)).2
      have h2 := (List.mem_filter.1 (List.getElem_mem hj)).2
      simp [isC] at h1 h2; omega
    · have h1 := (sortC_mem hx).2.2
      have h2 := (List.mem_filter.1 hy).2
      simp [isC] at h2; omega
/-- What is wrong at a place of cells that are sorted. -/
def badAt (c : List DclP) (o : List CellP) (j : Nat) : Prop := ∃ y, o[j]? = some y ∧ (¬ fitP c y.1 y.2 ∨ (0 < j ∧ ∃ x, o[j - 1]? = some x ∧ x.1 = y.1))
noncomputable instance (c : List DclP) (o : List CellP) : Decidable (∀ j, ¬ badAt c o j) := Classical.propDecidable _
noncomputable def l4S (c : List DclP) (l : List CellP) : List CellP × Bool :=
  if c.length < l.length then ([], false) else if ∀ j, ¬ badAt c (sortC c.length l) j then (sortC c.length l, decide ((sortC c.length l).length = l.length)) else ([], false)
theorem good_lt {c : List DclP} {l : List CellP} {n : Nat} (h : ∀ j, ¬ badAt c (sortC n l) j) : (sortC n l).Pairwise (fun x y => x.1 < y.1) := by
  have hle := sortC_le l n
  generalize sortC n l = o at *
  rw [List.pairwise_iff_getElem] at hle ⊢
  intro i j hi hj hij
  have h1 : o[i].1 ≠ (o[i + 1]'(by omega)).1 := fun he => by
    refine h (i + 1) ⟨o[i + 1]'(by omega), List.getElem?_eq_getElem _, .inr ⟨by omega, o[i], ?_, he⟩⟩
    rw [show i + 1 - 1 = i by omega]; exact List.getElem?_eq_getElem _
  have h2 := hle i (i + 1) hi (by omega) (by omega)
  rcases Nat.lt_or_ge (i + 1) j with h3 | h3
  · have := hle (i + 1) j (by omega) hj h3
    omega
  · obtain rfl : j = i + 1 := by omega
    omega
theorem cellsP_perm {c : List DclP} {l o : List CellP} (h : o.Perm l) : cellsP c o ↔ cellsP c l :=
  ⟨fun ⟨h1, h2⟩ => ⟨fun x hx => h1 x (h.mem_iff.2 hx), ((h.map _).nodup_iff).1 h2⟩, fun ⟨h1, h2⟩ => ⟨fun x hx => h1 x (h.mem_iff.1 hx), ((h.map _).nodup_iff).2 h2⟩⟩
theorem perm_full {n : Nat} {l : List CellP} (h : ∀ x ∈ l, 0 ≤ x.1 ∧ x.1 < n) : (sortC n l).Perm l := by
  have := sortC_perm l n
  rwa [List.filter_eq_self.2 (fun x hx => by simpa [inC] using h x hx)] at this
theorem cellsP_in {c : List DclP} {l : List CellP} (h : cellsP c l) : ∀ x ∈ l, 0 ≤ x.1 ∧ x.1 < c.length := fun x hx => by
  have := (h.1 x hx).1; omega
theorem l4S_t {c : List DclP} {l : List CellP} (h : cellsP c l) : l4S c l = (sortC c.length l, true) := by
  have hp := perm_full (cellsP_in h)
  have hlen : l.length ≤ c.length := by
    have := len_le_of_nodup c.length (l.map (·.1)) (fun k hk => by
      obtain ⟨x, hx, rfl⟩ := List.mem_map.1 hk
      exact cellsP_in h x hx) h.2
    simpa using this
  have ho := (cellsP_perm hp).2 h
  have hgood : ∀ j, ¬ badAt c (sortC c.length l) j := by
    rintro j ⟨y, hy, hf | ⟨hj, x, hx, hxy⟩⟩
    · exact hf (ho.1 y (List.mem_of_getElem? hy))
    · have hn := ho.2
      rw [List.nodup_iff_pairwise_ne, List.pairwise_map, List.pairwise_iff_getElem] at hn
      obtain ⟨hj1, rfl⟩ := List.getElem?_eq_some_iff.1 hx
      obtain ⟨hj2, rfl⟩ := List.getElem?_eq_some_iff.1 hy
      exact hn (j - 1) j hj1 hj2 (by omega) hxy
  unfold l4S
  rw [if_neg (by omega), if_pos hgood, decide_eq_true hp.length_eq]
theorem l4S_iff (c : List DclP) (l : List CellP) : (l4S c l).2 = true ↔ cellsP c l := by
  refine ⟨fun h => ?_, fun h => by rw [l4S_t h]⟩
  unfold l4S at h
  split at h
  · cases h
  split at h
  case isFalse => cases h
  rename_i hlen hgood
  have hl : (sortC c.length l).length = l.length := of_decide_eq_true h
  have hperm : (sortC c.length l).Perm l := by
    have hp := sortC_perm l c.length
    have h2 := hp.length_eq
    rw [hl] at h2
    have : l.filter (inC c.length) = l := by
      rw [List.filter_eq_self]
      exact List.length_filter_eq_length_iff.1 h2.symm
    rwa [this] at hp
  rw [← cellsP_perm hperm]
  refine ⟨fun x hx => ?_, ?_⟩
  · obtain ⟨i, hi⟩ := List.getElem?_of_mem hx
    exact Decidable.byContradiction fun hf => hgood i ⟨x, hi, .inl hf⟩
  · rw [List.nodup_iff_pairwise_ne, List.pairwise_map]
    exact (good_lt hgood).imp fun h => by omega
theorem l4S_b (c : List DclP) (l : List CellP) : (l4S c l).2 = decide (cellsP c l) := by
  by_cases h : cellsP c l
  · rw [decide_eq_true h, l4S_t h]
  · rw [decide_eq_false h]
    cases hb : (l4S c l).2 with
    | false => rfl
    | true => exact absurd ((l4S_iff c l).1 hb) h
end Go.Proofs.YtmedelmfkciblaaT

/- Cells that fit; CmdOk. -/
namespace Go.Proofs.YtmedelmfkciblaaT
set_option linter.unusedVariables false
set_option linter.unusedSimpArgs false
open Go

/- spec.l4Fits -/
def c86 : TCode := (.seq (.ops [⟨(some 3), 5, .box 3 (.t 0), none, []⟩, ⟨(some 5), 7, .box 4 (.t 2), none, []⟩, ⟨(some 6), 8, .mv (.c (.b false)), none, []⟩])
  (.seq (.draw [⟨(some 7), 9, .mv (.t 1), none, []⟩, ⟨(some 8), 10, .faddr 0 1 (.t 3), none, []⟩, ⟨(some 9), 11, .load false 1 (.t 8), none, []⟩, ⟨(some 10), 12, .len false (.t 9), none, []⟩, ⟨(some 11), 13, .bin .sub (.t 10) (.c (.i .i64 1)), none, []⟩, ⟨(some 12), 14, .call 87 [((.t 7), 0), ((.c (.i .i64 0)), 0), ((.t 11), 0)], none, []⟩, ⟨(some 13), 15, .mv (.t 12), none, []⟩, ⟨(some 14), 16, .load true 4 (.t 5), (some (13, true)), []⟩, ⟨(some 15), 17, .call 146 [((.t 14), 0)], (some (13, true)), []⟩, ⟨(some 16), 18, .pick (.t 13) (.t 15) (.c (.b false)), none, []⟩, ⟨(some 17), 19, .mv (.t 16), none, []⟩, ⟨(some 18), 20, .faddr 0 1 (.t 5), (some (17, true)), []⟩, ⟨(some 19), 21, .load false 1 (.t 18), (some (17, true)), []⟩, ⟨(some 20), 22, .faddr 0 1 (.t 3), (some (17, true)), []⟩, ⟨(some 21), 23, .load false 1 (.t 20), (some (17, true)), []⟩, ⟨(some 22), 24, .mv (.t 1), (some (17, true)), []⟩, ⟨(some 23), 25, .iaddr 2 (.t 21) (.t 22), (some (17, true)), []⟩, ⟨(some 24), 26, .faddr 1 1 (.t 23), (some (17, true)), []⟩, ⟨(some 25), 27, .load false 1 (.t 24), (some (17, true)), []⟩, ⟨(some 26), 28, .bin .eql (.t 19) (.t 25), (some (17, true)), []⟩, ⟨(some 27), 29, .pick (.t 17) (.t 26) (.c (.b false)), none, []⟩, ⟨(some 6), 8, .mv (.t 27), none, []⟩])
  .ret))
theorem k86 : compCode Try.prog Try.f86.ntmps Try.f86.body.get! = some c86 := by kernel_rfl
theorem r86 : resTmps Try.prog Try.f86.results.toList = some [.tmp 6] := by kernel_rfl
/- spec.l4Sorted -/
def c85 : TCode := (.seq (.ops [⟨(some 2), 4, .box 3 (.t 0), none, []⟩, ⟨(some 4), 6, .mv (.c (.sl true 5 [])), none, []⟩, ⟨(some 5), 7, .mv (.c (.b false)), none, []⟩])
  (.seq (.seq (.ops [⟨(some 10), 12, .mv (.t 1), none, []⟩, ⟨(some 11), 13, .len false (.t 10), none, []⟩, ⟨(some 12), 14, .faddr 0 1 (.t 2), none, []⟩, ⟨(some 13), 15, .load false 1 (.t 12), none, []⟩, ⟨(some 14), 16, .len false (.t 13), none, []⟩, ⟨(some 15), 17, .bin .gtr (.t 11) (.t 14), none, []⟩])
  (.cond (.t 15)
  (.seq (.ops [⟨(some 4), 6, .mv (.c (.sl true 5 [])), none, []⟩, ⟨(some 5), 7, .mv (.c (.b false)), none, []⟩])
  .ret)
  .skip))
  (.seq (.ops [⟨(some 16), 18, .bslice 5 0 [(.i .i64 0), (.i .i64 0), (.i .i64 0), (.f 0), (.f 0)] [], none, []⟩, ⟨(some 6), 8, .mv (.t 16), none, []⟩])
  (.seq (.seq (.ops [⟨(some 7), 9, .mv (.c (.i .i64 0)), none, []⟩])
  (.block 0 (.loop (.seq (.seq (.ops [⟨(some 17), 19, .mv (.t 7), none, []⟩, ⟨(some 18), 20, .faddr 0 1 (.t 2), none, []⟩, ⟨(some 19), 21, .load false 1 (.t 18), none, []⟩, ⟨(some 20), 22, .len false (.t 19), none, []⟩, ⟨(some 21), 23, .bin .lss (.t 17) (.t 20), none, []⟩])
  (.cond (.t 21)
  .skip
  (.exit 0)))
  (.seq (.block 1 (.seq (.ops [⟨(some 8), 10, .mv (.c (.i .i64 0)), none, []⟩])
  (.block 2 (.loop (.seq (.seq (.ops [⟨(some 24), 26, .mv (.t 8), none, []⟩, ⟨(some 25), 27, .mv (.t 1), none, []⟩, ⟨(some 26), 28, .len false (.t 25), none, []⟩, ⟨(some 27), 29, .bin .lss (.t 24) (.t 26), none, []⟩])
  (.cond (.t 27)
  .skip
  (.exit 2)))
  (.seq (.block 3 (.seq (.ops [⟨(some 30), 32, .mv (.t 1), none, []⟩, ⟨(some 31), 33, .mv (.t 8), none, []⟩, ⟨(some 32), 34, .iaddr 5 (.t 30) (.t 31), none, []⟩, ⟨(some 33), 35, .faddr 0 1 (.t 32), none, []⟩, ⟨(some 34), 36, .load false 1 (.t 33), none, []⟩, ⟨(some 35), 37, .mv (.t 7), none, []⟩, ⟨(some 36), 38, .bin .eql (.t 34) (.t 35), none, []⟩])
  (.cond (.t 36)
  (.ops [⟨(some 37), 39, .mv (.t 6), none, []⟩, ⟨(some 38), 40, .mv (.t 1), none, []⟩, ⟨(some 39), 41, .mv (.t 8), none, []⟩, ⟨(some 40), 42, .iaddr 5 (.t 38) (.t 39), none, []⟩, ⟨(some 41), 43, .load true 5 (.t 40), none, []⟩, ⟨(some 42), 44, .bslice 5 1 [(.i .i64 0), (.i .i64 0), (.i .i64 0), (.f 0), (.f 0)] [(0, (.t 41))], none, []⟩, ⟨(some 43), 45, .app 5 40 (.t 37) (.t 42), none, []⟩, ⟨(some 6), 8, .mv (.t 43), none, []⟩])
  .skip)))
  (.ops [⟨(some 28), 30, .mv (.t 8), none, []⟩, ⟨(some 29), 31, .bin .add (.t 28) (.c (.i .i64 1)), none, []⟩, ⟨(some 8), 10, .mv (.t 29), none, []⟩])))))))
  (.ops [⟨(some 22), 24, .mv (.t 7), none, []⟩, ⟨(some 23), 25, .bin .add (.t 22) (.c (.i .i64 1)), none, []⟩, ⟨(some 7), 9, .mv (.t 23), none, []⟩]))))))
  (.seq (.seq (.ops [⟨(some 9), 11, .mv (.c (.i .i64 0)), none, []⟩])
  (.block 4 (.loop (.seq (.seq (.ops [⟨(some 44), 46, .mv (.t 9), none, []⟩, ⟨(some 45), 47, .mv (.t 6), none, []⟩, ⟨(some 46), 48, .len false (.t 45), none, []⟩, ⟨(some 47), 49, .bin .lss (.t 44) (.t 46), none, []⟩])
  (.cond (.t 47)
  .skip
  (.exit 4)))
  (.seq (.block 5 (.seq (.draw [⟨(some 50), 52, .load true 3 (.t 2), none, []⟩, ⟨(some 51), 53, .mv (.t 6), none, []⟩, ⟨(some 52), 54, .mv (.t 9), none, []⟩, ⟨(some 53), 55, .iaddr 5 (.t 51) (.t 52), none, []⟩, ⟨(some 54), 56, .faddr 0 1 (.t 53), none, []⟩, ⟨(some 55), 57, .load false 1 (.t 54), none, []⟩, ⟨(some 56), 58, .mv (.t 6), none, []⟩, ⟨(some 57), 59, .mv (.t 9), none, []⟩, ⟨(some 58), 60, .iaddr 5 (.t 56) (.t 57), none, []⟩, ⟨(some 59), 61, .faddr 1 4 (.t 58), none, []⟩, ⟨(some 60), 62, .load true 4 (.t 59), none, []⟩, ⟨(some 61), 63, .call 86 [((.t 50), 0), ((.t 55), 0), ((.t 60), 0)], none, []⟩, ⟨(some 62), 64, .un .not (.t 61), none, []⟩, ⟨(some 63), 65, .mv (.t 62), none, []⟩, ⟨(some 64), 66, .mv (.t 9), (some (63, false)), []⟩, ⟨(some 65), 67, .bin .gtr (.t 64) (.c (.i .i64 0)), (some (63, false)), []⟩, ⟨(some 66), 68, .mv (.t 65), (some (63, false)), []⟩, ⟨(some 67), 69, .mv (.t 6), (some (66, true)), []⟩, ⟨(some 68), 70, .mv (.t 9), (some (66, true)), []⟩, ⟨(some 69), 71, .bin .sub (.t 68) (.c (.i .i64 1)), (some (66, true)), []⟩, ⟨(some 70), 72, .iaddr 5 (.t 67) (.t 69), (some (66, true)), []⟩, ⟨(some 71), 73, .faddr 0 1 (.t 70), (some (66, true)), []⟩, ⟨(some 72), 74, .load false 1 (.t 71), (some (66, true)), []⟩, ⟨(some 73), 75, .mv (.t 6), (some (66, true)), []⟩, ⟨(some 74), 76, .mv (.t 9), (some (66, true)), []⟩, ⟨(some 75), 77, .iaddr 5 (.t 73) (.t 74), (some (66, true)), []⟩, ⟨(some 76), 78, .faddr 0 1 (.t 75), (some (66, true)), []⟩, ⟨(some 77), 79, .load false 1 (.t 76), (some (66, true)), []⟩, ⟨(some 78), 80, .bin .eql (.t 72) (.t 77), (some (66, true)), []⟩, ⟨(some 79), 81, .pick (.t 66) (.t 78) (.c (.b false)), (some (63, false)), []⟩, ⟨(some 80), 82, .pick (.t 63) (.c (.b true)) (.t 79), none, []⟩])
  (.cond (.t 80)
  (.seq (.ops [⟨(some 4), 6, .mv (.c (.sl true 5 [])), none, []⟩, ⟨(some 5), 7, .mv (.c (.b false)), none, []⟩])
  .ret)
  .skip)))
  (.ops [⟨(some 48), 50, .mv (.t 9), none, []⟩, ⟨(some 49), 51, .bin .add (.t 48) (.c (.i .i64 1)), none, []⟩, ⟨(some 9), 11, .mv (.t 49), none, []⟩]))))))
  (.seq (.ops [⟨(some 81), 83, .mv (.t 6), none, []⟩, ⟨(some 82), 84, .mv (.t 6), none, []⟩, ⟨(some 83), 85, .len false (.t 82), none, []⟩, ⟨(some 84), 86, .mv (.t 1), none, []⟩, ⟨(some 85), 87, .len false (.t 84), none, []⟩, ⟨(some 86), 88, .bin .eql (.t 83) (.t 85), none, []⟩, ⟨(some 4), 6, .mv (.t 81), none, []⟩, ⟨(some 5), 7, .mv (.t 86), none, []⟩])
  .ret))))))
theorem k85 : compCode Try.prog Try.f85.ntmps Try.f85.body.get! = some c85 := by kernel_rfl
theorem r85 : resTmps Try.prog Try.f85.results.toList = some [.tmp 4, .tmp 5] := by kernel_rfl
/- impl.cellOk -/
def c153 : TCode := (.seq (.ops [⟨(some 3), 5, .box 5 (.t 1), none, []⟩, ⟨(some 4), 6, .mv (.c (.b false)), none, []⟩])
  (.seq (.draw [⟨(some 5), 7, .faddr 0 1 (.t 3), none, []⟩, ⟨(some 6), 8, .load false 1 (.t 5), none, []⟩, ⟨(some 7), 9, .mv (.t 0), none, []⟩, ⟨(some 8), 10, .nilck (.t 7), none, []⟩, ⟨(some 9), 11, .faddr 0 1 (.t 8), none, []⟩, ⟨(some 10), 12, .load false 1 (.t 9), none, []⟩, ⟨(some 11), 13, .len false (.t 10), none, []⟩, ⟨(some 12), 14, .bin .sub (.t 11) (.c (.i .i64 1)), none, []⟩, ⟨(some 13), 15, .call 154 [((.t 6), 0), ((.c (.i .i64 0)), 0), ((.t 12), 0)], none, []⟩, ⟨(some 14), 16, .mv (.t 13), none, []⟩, ⟨(some 15), 17, .faddr 1 4 (.t 3), (some (14, true)), []⟩, ⟨(some 16), 18, .load true 4 (.t 15), (some (14, true)), []⟩, ⟨(some 17), 19, .mv (.t 0), (some (14, true)), []⟩, ⟨(some 18), 20, .nilck (.t 17), (some (14, true)), []⟩, ⟨(some 19), 21, .faddr 0 1 (.t 18), (some (14, true)), []⟩, ⟨(some 20), 22, .load false 1 (.t 19), (some (14, true)), []⟩, ⟨(some 21), 23, .faddr 0 1 (.t 3), (some (14, true)), []⟩, ⟨(some 22), 24, .load false 1 (.t 21), (some (14, true)), []⟩, ⟨(some 23), 25, .iaddr 2 (.t 20) (.t 22), (some (14, true)), []⟩, ⟨(some 24), 26, .faddr 1 1 (.t 23), (some (14, true)), []⟩, ⟨(some 25), 27, .load false 1 (.t 24), (some (14, true)), []⟩, ⟨(some 26), 28, .call 193 [((.t 16), 0), ((.t 25), 0)], (some (14, true)), []⟩, ⟨(some 27), 29, .pick (.t 14) (.t 26) (.c (.b false)), none, []⟩, ⟨(some 4), 6, .mv (.t 27), none, []⟩])
  .ret))
theorem k153 : compCode Try.prog Try.f153.ntmps Try.f153.body.get! = some c153 := by kernel_rfl
theorem r153 : resTmps Try.prog Try.f153.results.toList = some [.tmp 4] := by kernel_rfl
/- impl.cellsOk$1 -/
def c192 : TCode := (.seq (.ops [⟨(some 2), 4, .box 5 (.t 0), none, []⟩, ⟨(some 3), 5, .mv (.c (.b false)), none, []⟩])
  (.seq (.ops [⟨(some 4), 6, .faddr 0 1 (.t 2), none, []⟩, ⟨(some 5), 7, .load false 1 (.t 4), none, []⟩, ⟨(some 6), 8, .faddr 0 1 (.t 1), none, []⟩, ⟨(some 7), 9, .load false 1 (.t 6), none, []⟩, ⟨(some 8), 10, .bin .eql (.t 5) (.t 7), none, []⟩, ⟨(some 3), 5, .mv (.t 8), none, []⟩])
  .ret))
theorem k192 : compCode Try.prog Try.f192.ntmps Try.f192.body.get! = some c192 := by kernel_rfl
theorem r192 : resTmps Try.prog Try.f192.results.toList = some [.tmp 3] := by kernel_rfl
/- slices.IndexFunc[[]impl.Cell,impl.Cell] -/
def c223 : TCode := (.seq (.ops [⟨(some 4), 6, .mv (.c (.i .i64 0)), none, []⟩])
  (.seq (.seq (.ops [⟨(some 6), 8, .mv (.t 0), none, []⟩, ⟨(some 7), 9, .len false (.t 6), none, []⟩, ⟨(some 8), 10, .mv (.c (.i .i64 0)), none, []⟩])
  (.block 0 (.loop (.seq (.ops [⟨(some 9), 11, .bin .lss (.t 8) (.t 7), none, []⟩])
  (.seq (.cond (.t 9)
  .skip
  (.exit 0))
  (.seq (.block 1 (.seq (.ops [⟨(some 10), 12, .mv (.t 8), none, []⟩, ⟨(some 5), 7, .mv (.t 10), none, []⟩])
  (.seq (.ops [⟨(some 11), 13, .mv (.t 1), none, []⟩, ⟨(some 12), 14, .mv (.t 0), none, []⟩, ⟨(some 13), 15, .mv (.t 5), none, []⟩, ⟨(some 14), 16, .iaddr 5 (.t 12) (.t 13), none, []⟩, ⟨(some 15), 17, .load true 5 (.t 14), none, []⟩, ⟨(some 16), 18, .callv (.t 11) [((.t 15), 0)], none, []⟩])
  (.cond (.t 16)
  (.seq (.ops [⟨(some 17), 19, .mv (.t 5), none, []⟩, ⟨(some 4), 6, .mv (.t 17), none, []⟩])
  .ret)
  .skip))))
  (.ops [⟨(some 18), 20, .bin .add (.t 8) (.c (.i .i64 1)), none, []⟩, ⟨(some 8), 10, .mv (.t 18), none, []⟩])))))))
  (.seq (.ops [⟨(some 4), 6, .mv (.c (.i .i64 (-1))), none, []⟩])
  .ret)))
theorem k223 : compCode Try.prog Try.f223.ntmps Try.f223.body.get! = some c223 := by kernel_rfl
theorem r223 : resTmps Try.prog Try.f223.results.toList = some [.tmp 4] := by kernel_rfl
/- slices.ContainsFunc[[]impl.Cell,impl.Cell] -/
def c191 : TCode := (.seq (.ops [⟨(some 4), 6, .mv (.c (.b false)), none, []⟩])
  (.seq (.ops [⟨(some 5), 7, .mv (.t 0), none, []⟩, ⟨(some 6), 8, .mv (.t 1), none, []⟩, ⟨(some 7), 9, .call 223 [((.t 5), 0), ((.t 6), 0)], none, []⟩, ⟨(some 8), 10, .bin .geq (.t 7) (.c (.i .i64 0)), none, []⟩, ⟨(some 4), 6, .mv (.t 8), none, []⟩])
  .ret))
theorem k191 : compCode Try.prog Try.f191.ntmps Try.f191.body.get! = some c191 := by kernel_rfl
theorem r191 : resTmps Try.prog Try.f191.results.toList = some [.tmp 4] := by kernel_rfl
/- impl.cellsOk -/
def c152 : TCode := (.seq (.ops [⟨(some 4), 6, .mv (.c (.b false)), none, []⟩])
  (.seq (.seq (.ops [⟨(some 7), 9, .mv (.t 1), none, []⟩, ⟨(some 8), 10, .len false (.t 7), none, []⟩, ⟨(some 9), 11, .mv (.c (.i .i64 0)), none, []⟩])
  (.block 0 (.loop (.seq (.ops [⟨(some 10), 12, .bin .lss (.t 9) (.t 8), none, []⟩])
  (.seq (.cond (.t 10)
  .skip
  (.exit 0))
  (.seq (.block 1 (.seq (.ops [⟨(some 11), 13, .mv (.t 9), none, []⟩, ⟨(some 12), 14, .iaddr 5 (.t 7) (.t 9), none, []⟩, ⟨(some 13), 15, .load true 5 (.t 12), none, []⟩, ⟨(some 6), 8, .box 5 (.c (.ag [(.i .i64 0), (.i .i64 0), (.i .i64 0), (.f 0), (.f 0)])), none, []⟩, ⟨(some 5), 7, .mv (.t 11), none, []⟩, ⟨none, 1003005, .store 5 (.t 6) (.t 13), none, []⟩])
  (.seq (.ops [⟨(some 14), 16, .mv (.t 0), none, []⟩, ⟨(some 15), 17, .load true 5 (.t 6), none, []⟩, ⟨(some 16), 18, .call 153 [((.t 14), 3), ((.t 15), 0)], none, []⟩, ⟨(some 17), 19, .un .not (.t 16), none, []⟩, ⟨(some 18), 20, .mv (.t 17), none, []⟩, ⟨(some 19), 21, .mv (.t 1), (some (18, false)), []⟩, ⟨(some 20), 22, .mv (.t 5), (some (18, false)), []⟩, ⟨(some 21), 23, .slice false 5 (.t 19) none (some (.t 20)), (some (18, false)), []⟩, ⟨(some 22), 24, .mkfn 192 [(.t 6)], (some (18, false)), []⟩, ⟨(some 23), 25, .call 191 [((.t 21), 0), ((.t 22), 0)], (some (18, false)), []⟩, ⟨(some 24), 26, .pick (.t 18) (.c (.b true)) (.t 23), none, []⟩])
  (.cond (.t 24)
  (.seq (.ops [⟨(some 4), 6, .mv (.c (.b false)), none, []⟩])
  .ret)
  .skip))))
  (.ops [⟨(some 25), 27, .bin .add (.t 9) (.c (.i .i64 1)), none, []⟩, ⟨(some 9), 11, .mv (.t 25), none, []⟩])))))))
  (.seq (.ops [⟨(some 4), 6, .mv (.c (.b true)), none, []⟩])
  .ret)))
theorem k152 : compCode Try.prog Try.f152.ntmps Try.f152.body.get! = some c152 := by kernel_rfl
theorem r152 : resTmps Try.prog Try.f152.results.toList = some [.tmp 4] := by kernel_rfl
/- impl.cmdOk -/
def c92 : TCode := (.seq (.ops [⟨(some 3), 5, .box 9 (.t 1), none, []⟩, ⟨(some 4), 6, .mv (.c (.b false)), none, []⟩])
  (.seq (.seq (.ops [⟨(some 5), 7, .faddr 0 1 (.t 3), none, []⟩, ⟨(some 6), 8, .load false 1 (.t 5), none, []⟩])
  (.block 0 (.seq (.ops [⟨(some 8), 10, .bin .eql (.t 6) (.c (.i .i64 1)), none, []⟩, ⟨(some 7), 9, .mv (.t 8), none, []⟩])
  (.cond (.t 7)
  (.seq (.ops [⟨(some 9), 11, .mv (.t 0), none, []⟩, ⟨(some 10), 12, .faddr 8 1 (.t 3), none, []⟩, ⟨(some 11), 13, .load false 1 (.t 10), none, []⟩, ⟨(some 12), 14, .call 152 [((.t 9), 3), ((.t 11), 0)], none, []⟩, ⟨(some 4), 6, .mv (.t 12), none, []⟩])
  .ret)
  (.seq (.ops [⟨(some 14), 16, .bin .eql (.t 6) (.c (.i .i64 2)), none, []⟩, ⟨(some 13), 15, .mv (.t 14), none, []⟩])
  (.cond (.t 13)
  (.seq (.ops [⟨(some 4), 6, .mv (.c (.b true)), none, []⟩])
  .ret)
  (.seq (.ops [⟨(some 16), 18, .bin .eql (.t 6) (.c (.i .i64 3)), none, []⟩, ⟨(some 15), 17, .mv (.t 16), none, []⟩])
  (.cond (.t 15)
  (.seq (.ops [⟨(some 17), 19, .mv (.t 0), none, []⟩, ⟨(some 18), 20, .faddr 3 1 (.t 3), none, []⟩, ⟨(some 19), 21, .load false 1 (.t 18), none, []⟩, ⟨(some 20), 22, .faddr 4 4 (.t 3), none, []⟩, ⟨(some 21), 23, .load true 4 (.t 20), none, []⟩, ⟨(some 22), 24, .build [(.i .i64 0), (.i .i64 0), (.i .i64 0), (.f 0), (.f 0)] [(0, 1, (.t 19)), (1, 4, (.t 21))], none, []⟩, ⟨(some 23), 25, .call 153 [((.t 17), 3), ((.t 22), 0)], none, []⟩, ⟨(some 4), 6, .mv (.t 23), none, []⟩])
  .ret)
  (.seq (.ops [⟨(some 25), 27, .bin .eql (.t 6) (.c (.i .i64 4)), none, []⟩, ⟨(some 24), 26, .mv (.t 25), none, []⟩])
  (.cond (.t 24)
  (.seq (.draw [⟨(some 26), 28, .faddr 3 1 (.t 3), none, []⟩, ⟨(some 27), 29, .load false 1 (.t 26), none, []⟩, ⟨(some 28), 30, .mv (.t 0), none, []⟩, ⟨(some 29), 31, .nilck (.t 28), none, []⟩, ⟨(some 30), 32, .faddr 0 1 (.t 29), none, []⟩, ⟨(some 31), 33, .load false 1 (.t 30), none, []⟩, ⟨(some 32), 34, .len false (.t 31), none, []⟩, ⟨(some 33), 35, .bin .sub (.t 32) (.c (.i .i64 1)), none, []⟩, ⟨(some 34), 36, .call 154 [((.t 27), 0), ((.c (.i .i64 0)), 0), ((.t 33), 0)], none, []⟩, ⟨(some 4), 6, .mv (.t 34), none, []⟩])
  .ret)
  .skip))))))))))
  (.seq (.ops [⟨(some 4), 6, .mv (.c (.b false)), none, []⟩])
  .ret)))
theorem k92 : compCode Try.prog Try.f92.ntmps Try.f92.body.get! = some c92 := by kernel_rfl
theorem r92 : resTmps Try.prog Try.f92.results.toList = some [.tmp 4] := by kernel_rfl
/- impl.CmdOk -/
def c46 : TCode := (.seq (.ops [⟨(some 2), 4, .box 3 (.t 0), none, []⟩, ⟨(some 3), 5, .box 9 (.t 1), none, []⟩, ⟨(some 4), 6, .mv (.c (.b false)), none, []⟩])
  (.seq (.ops [⟨(some 5), 7, .load true 3 (.t 2), none, []⟩, ⟨(some 6), 8, .call 91 [((.t 5), 0)], none, []⟩, ⟨(some 7), 9, .mv (.t 6), none, []⟩, ⟨(some 8), 10, .load true 9 (.t 3), (some (7, true)), []⟩, ⟨(some 9), 11, .call 92 [((.t 2), 3), ((.t 8), 0)], (some (7, true)), []⟩, ⟨(some 10), 12, .pick (.t 7) (.t 9) (.c (.b false)), none, []⟩, ⟨(some 4), 6, .mv (.t 10), none, []⟩])
  .ret))
theorem k46 : compCode Try.prog Try.f46.ntmps Try.f46.body.get! = some c46 := by kernel_rfl
theorem r46 : resTmps Try.prog Try.f46.results.toList = some [.tmp 4] := by kernel_rfl
/- spec.CmdOk -/
def c43 : TCode := (.seq (.ops [⟨(some 2), 4, .box 3 (.t 0), none, []⟩, ⟨(some 3), 5, .box 9 (.t 1), none, []⟩, ⟨(some 4), 6, .mv (.c (.b false)), none, []⟩])
  (.seq (.seq (.ops [⟨(some 7), 9, .load true 3 (.t 2), none, []⟩, ⟨(some 8), 10, .call 84 [((.t 7), 0)], none, []⟩, ⟨(some 9), 11, .un .not (.t 8), none, []⟩])
  (.cond (.t 9)
  (.seq (.ops [⟨(some 4), 6, .mv (.c (.b false)), none, []⟩])
  .ret)
  .skip))
  (.seq (.seq (.ops [⟨(some 10), 12, .faddr 0 1 (.t 3), none, []⟩, ⟨(some 11), 13, .load false 1 (.t 10), none, []⟩])
  (.block 0 (.seq (.ops [⟨(some 13), 15, .bin .eql (.t 11) (.c (.i .i64 1)), none, []⟩, ⟨(some 12), 14, .mv (.t 13), none, []⟩])
  (.cond (.t 12)
  (.seq (.ops [⟨(some 15), 17, .load true 3 (.t 2), none, []⟩, ⟨(some 16), 18, .faddr 8 1 (.t 3), none, []⟩, ⟨(some 17), 19, .load false 1 (.t 16), none, []⟩, ⟨(some 18), 20, .call 85 [((.t 15), 0), ((.t 17), 0)], none, []⟩, ⟨(some 14), 16, .mv (.t 18), none, []⟩, ⟨(some 19), 21, .ext 0 (.t 14), none, []⟩, ⟨(some 20), 22, .ext 1 (.t 14), none, []⟩, ⟨(some 5), 7, .mv (.t 19), none, []⟩, ⟨(some 6), 8, .mv (.t 20), none, []⟩])
  (.seq (.ops [⟨(some 21), 23, .mv (.t 6), none, []⟩, ⟨(some 4), 6, .mv (.t 21), none, []⟩])
  .ret))
  (.seq (.ops [⟨(some 23), 25, .bin .eql (.t 11) (.c (.i .i64 2)), none, []⟩, ⟨(some 22), 24, .mv (.t 23), none, []⟩])
  (.cond (.t 22)
  (.seq (.ops [⟨(some 4), 6, .mv (.c (.b true)), none, []⟩])
  .ret)
  (.seq (.ops [⟨(some 25), 27, .bin .eql (.t 11) (.c (.i .i64 3)), none, []⟩, ⟨(some 24), 26, .mv (.t 25), none, []⟩])
  (.cond (.t 24)
  (.seq (.ops [⟨(some 26), 28, .load true 3 (.t 2), none, []⟩, ⟨(some 27), 29, .faddr 3 1 (.t 3), none, []⟩, ⟨(some 28), 30, .load false 1 (.t 27), none, []⟩, ⟨(some 29), 31, .faddr 4 4 (.t 3), none, []⟩, ⟨(some 30), 32, .load true 4 (.t 29), none, []⟩, ⟨(some 31), 33, .call 86 [((.t 26), 0), ((.t 28), 0), ((.t 30), 0)], none, []⟩, ⟨(some 4), 6, .mv (.t 31), none, []⟩])
  .ret)
  (.seq (.ops [⟨(some 33), 35, .bin .eql (.t 11) (.c (.i .i64 4)), none, []⟩, ⟨(some 32), 34, .mv (.t 33), none, []⟩])
  (.cond (.t 32)
  (.seq (.ops [⟨(some 34), 36, .faddr 3 1 (.t 3), none, []⟩, ⟨(some 35), 37, .load false 1 (.t 34), none, []⟩, ⟨(some 36), 38, .faddr 0 1 (.t 2), none, []⟩, ⟨(some 37), 39, .load false 1 (.t 36), none, []⟩, ⟨(some 38), 40, .len false (.t 37), none, []⟩, ⟨(some 39), 41, .bin .sub (.t 38) (.c (.i .i64 1)), none, []⟩, ⟨(some 40), 42, .call 87 [((.t 35), 0), ((.c (.i .i64 0)), 0), ((.t 39), 0)], none, []⟩, ⟨(some 4), 6, .mv (.t 40), none, []⟩])
  .ret)
  .skip))))))))))
  (.seq (.ops [⟨(some 4), 6, .mv (.c (.b false)), none, []⟩])
  .ret))))
theorem k43 : compCode Try.prog Try.f43.ntmps Try.f43.body.get! = some c43 := by kernel_rfl
theorem r43 : resTmps Try.prog Try.f43.results.toList = some [.tmp 4] := by kernel_rfl
/- laws.FnExactCmdOk -/
def c8 : TCode := (.seq (.ops [⟨(some 2), 4, .box 3 (.t 0), none, []⟩, ⟨(some 3), 5, .box 9 (.t 1), none, []⟩, ⟨(some 4), 6, .mv (.c (.b false)), none, []⟩])
  (.seq (.ops [⟨(some 5), 7, .mv (.c (.i .i64 1048576)), none, []⟩])
  (.seq (.ops [⟨(some 10), 12, .load true 3 (.t 2), none, []⟩, ⟨(some 11), 13, .mv (.t 5), none, []⟩, ⟨(some 12), 14, .call 41 [((.t 10), 0), ((.t 11), 0)], none, []⟩, ⟨(some 5), 7, .mv (.t 12), none, []⟩])
  (.seq (.seq (.ops [⟨(some 13), 15, .mv (.t 5), none, []⟩, ⟨(some 14), 16, .bin .lss (.t 13) (.c (.i .i64 0)), none, []⟩])
  (.cond (.t 14)
  (.seq (.ops [⟨(some 4), 6, .mv (.c (.b true)), none, []⟩])
  .ret)
  .skip))
  (.seq (.ops [⟨(some 15), 17, .load true 9 (.t 3), none, []⟩, ⟨(some 16), 18, .mv (.t 5), none, []⟩, ⟨(some 17), 19, .call 42 [((.t 15), 0), ((.t 16), 0)], none, []⟩, ⟨(some 5), 7, .mv (.t 17), none, []⟩])
  (.seq (.seq (.ops [⟨(some 18), 20, .mv (.t 5), none, []⟩, ⟨(some 19), 21, .bin .lss (.t 18) (.c (.i .i64 0)), none, []⟩])
  (.cond (.t 19)
  (.seq (.ops [⟨(some 4), 6, .mv (.c (.b true)), none, []⟩])
  .ret)
  .skip))
  (.seq (.draw [⟨(some 20), 22, .load true 3 (.t 2), none, []⟩, ⟨(some 21), 23, .call 44 [((.t 20), 0)], none, []⟩, ⟨(some 22), 24, .load true 9 (.t 3), none, [1]⟩, ⟨(some 23), 25, .call 45 [((.t 22), 0)], none, []⟩, ⟨(some 24), 26, .call 43 [((.t 21), 0), ((.t 23), 0)], none, []⟩, ⟨(some 6), 8, .mv (.t 24), none, []⟩])
  (.seq (.ops [⟨(some 25), 27, .load true 3 (.t 2), none, []⟩, ⟨(some 26), 28, .call 44 [((.t 25), 0)], none, []⟩, ⟨(some 7), 9, .box 3 (.c (.ag [(.sl true 2 []), (.sl true 2 []), (.sl true 2 [])])), none, []⟩, ⟨none, 1009003, .store 3 (.t 7) (.t 26), none, []⟩])
  (.seq (.ops [⟨(some 27), 29, .load true 9 (.t 3), none, []⟩, ⟨(some 28), 30, .call 45 [((.t 27), 0)], none, []⟩, ⟨(some 8), 10, .box 9 (.c (.ag [(.i .i64 0), (.i .i64 0), (.i .i64 0), (.i .i64 0), (.i .i64 0), (.i .i64 0), (.f 0), (.f 0), (.sl true 5 [])])), none, []⟩, ⟨none, 1010003, .store 9 (.t 8) (.t 28), none, []⟩])
  (.seq (.ops [⟨(some 29), 31, .load true 3 (.t 7), none, []⟩, ⟨(some 30), 32, .load true 9 (.t 8), none, []⟩, ⟨(some 31), 33, .call 46 [((.t 29), 0), ((.t 30), 0)], none, []⟩, ⟨(some 9), 11, .mv (.t 31), none, []⟩])
  (.seq (.seq (.ops [⟨(some 32), 34, .mv (.t 9), none, []⟩, ⟨(some 33), 35, .mv (.t 6), none, []⟩, ⟨(some 34), 36, .eqs true false [.b] (.t 32) (.t 33), none, []⟩])
  (.cond (.t 34)
  (.seq (.ops [⟨(some 4), 6, .mv (.c (.b false)), none, []⟩])
  .ret)
  .skip))
  (.seq (.seq (.draw [⟨(some 35), 37, .load true 3 (.t 7), none, []⟩, ⟨(some 36), 38, .load true 3 (.t 2), none, []⟩, ⟨(some 37), 39, .call 44 [((.t 36), 0)], none, [0]⟩, ⟨(some 38), 40, .call 47 [((.t 35), 0), ((.t 37), 0)], none, []⟩, ⟨(some 39), 41, .un .not (.t 38), none, []⟩])
  (.cond (.t 39)
  (.seq (.ops [⟨(some 4), 6, .mv (.c (.b false)), none, []⟩])
  .ret)
  .skip))
  (.seq (.seq (.draw [⟨(some 40), 42, .load true 9 (.t 8), none, []⟩, ⟨(some 41), 43, .load true 9 (.t 3), none, []⟩, ⟨(some 42), 44, .call 45 [((.t 41), 0)], none, [0]⟩, ⟨(some 43), 45, .call 48 [((.t 40), 0), ((.t 42), 0)], none, []⟩, ⟨(some 44), 46, .un .not (.t 43), none, []⟩])
  (.cond (.t 44)
  (.seq (.ops [⟨(some 4), 6, .mv (.c (.b false)), none, []⟩])
  .ret)
  .skip))
  (.seq (.ops [⟨(some 4), 6, .mv (.c (.b true)), none, []⟩])
  .ret))))))))))))))
theorem k8 : compCode Try.prog Try.f8.ntmps Try.f8.body.get! = some c8 := by kernel_rfl
theorem r8 : resTmps Try.prog Try.f8.results.toList = some [.tmp 4] := by kernel_rfl

theorem fit_get {c : List DclP} {k : Int} (h : 0 ≤ k ∧ k ≤ (c.length : Int) - 1) : ∃ d, c[k.toNat]? = some d := get_some (by omega)
theorem w86 (c r e : List DclP) (k : Int) (v : ValP) (hv : valOkF v) (hc : c.length ≤ 2^40) : Contract Try.prog false 86 [.ro, .ro, .ro] [regR c r e, .i .i64 k, valV v] [.b (decide (fitP c k v))] [] := by
  refine mk_contract [] Try.func86 (c := Try.f86.body.get!) (by kernel_rfl) k86 r86 (of_decide_eq_true rfl) fun _ => ?_
  have hw : IntKind.i64.wrap ((c.length : Int) - 1) = c.length - 1 := wrap_id (by omega) (by omega)
  unfold c86; unfold regR valV; simp [hw]
  by_cases h1 : 0 ≤ k ∧ k ≤ (c.length : Int) - 1
  · obtain ⟨d, hd⟩ := fit_get h1
    refine callW_ms [.ro, .ro, .ro] ?_
    simp
    refine callX_of ((w87 _ _ _).t h1) (by simp) ?_
    simp
    by_cases h2 : ValOkP v
    · refine callW_ms [.ro] ?_
      simp [valV]
      refine callX_of ((w146 v hv).t h2) (by simp) ?_
      simp [hd, h1.1]
      simp [fitP, h1, h2, hd]
      exact ⟨fun h => h.symm, fun h => h.symm⟩
    · refine callW_ms [.ro] ?_
      simp [valV]
      refine callX_of ((w146 v hv).f h2) (by simp) ?_
      simp
      simp [fitP, h2]
  · refine callW_ms [.ro, .ro, .ro] ?_
    simp
    refine callX_of ((w87 _ _ _).f h1) (by simp) ?_
    simp
    have : ¬ fitP c k v := fun h => h1 h.1
    simp [this]
theorem w153 (c r e : List DclP) (x : CellP) (hc : c.length ≤ 2^40) : Contract Try.prog false 153 [.ro, .ro] [.po false [.sl false 2 (c.map dT), .sl false 2 (r.map dT), .sl false 2 (e.map dT)], cellR x] [.b (decide (fitP c x.1 x.2))] [] := by
  refine mk_contract [] Try.func153 (c := Try.f153.body.get!) (by kernel_rfl) k153 r153 (of_decide_eq_true rfl) fun _ => ?_
  have hw : IntKind.i64.wrap ((c.length : Int) - 1) = c.length - 1 := wrap_id (by omega) (by omega)
  unfold c153; simp [hw]
  by_cases h1 : 0 ≤ x.1 ∧ x.1 ≤ (c.length : Int) - 1
  · obtain ⟨d, hd⟩ := fit_get h1
    refine callW_ms [.ro, .ro, .ro] ?_
    simp
    refine callX_of ((w154 _ _ _).t h1) (by simp) ?_
    simp [hd, h1.1]
    refine callW_ms [.ro, .ro] ?_
    simp [valV]
    refine callX_of (w193 x.2 d.2) (by simp) ?_
    simp
    simp [fitP, ofK, h1, hd]
    exact ⟨fun h => ⟨h.2, h.1.symm⟩, fun h => ⟨h.2.symm, h.1⟩⟩
  · refine callW_ms [.ro, .ro, .ro] ?_
    simp
    refine callX_of ((w154 _ _ _).f h1) (by simp) ?_
    simp
    have : ¬ fitP c x.1 x.2 := fun h => h1 h.1
    simp [this]
def sameC (x : CellP) (y : CellP) : Bool := decide (y.1 = x.1)
theorem w192 (y x : CellP) : Contract Try.prog false 192 [.ro, .ro] [cellR y, .po false (clT x)] [.b (sameC x y)] [] := by
  refine mk_contract [] Try.func192 (c := Try.f192.body.get!) (by kernel_rfl) k192 r192 (of_decide_eq_true rfl) fun _ => ?_
  unfold c192; simp [sameC]
theorem w223 (L : List CellP) (x : CellP) (hL : L.length ≤ 2^40) : Contract Try.prog false 223 [.ro, .ro] [.sl false 5 (L.map clT), .fn 192 [.po false (clT x)]] [.i .i64 (idxP (sameC x) L)] [] := by
  refine mk_contract [] Try.func223 (c := Try.f223.body.get!) (by kernel_rfl) k223 r223 (of_decide_eq_true rfl) fun _ => ?_
  unfold c223; simp
  refine twp_for L.length (fun j s => s.t 0 = .sl false 5 (L.map clT) ∧ s.t 1 = .fn 192 [.po false (clT x)] ∧ s.t 7 = .i .i64 L.length ∧ s.t 8 = .i .i64 j ∧ (∀ y ∈ L.take j, sameC x y = false) ∧ s.H = lk [(1, [])]) [] (by simp) ?_ ?_
  · simp
  · rintro j s hj ⟨q0, q1, q7, q8, hn, qH⟩
    rw [nf_of qH]
    simp [q0, q1, q7, q8]
    refine ⟨fun hlt => ?_, fun hge => ?_⟩
    · have hw : IntKind.i64.wrap (j + 1) = j + 1 := wrap_id (by omega) (by omega)
      obtain ⟨y, hy⟩ := get_some hlt
      simp [hy, hw, q0, q1, q7, q8]
      refine ⟨by kernel_rfl, ?_⟩
      have hC := w192 y x
      cases hb : sameC x y with
      | true =>
        rw [hb] at hC
        refine callW_ms [.ro, .ro] ?_
        simp
        refine callX_of hC (by simp) ?_
        simp [hw, q0, q1, q7, q8]
        exact (idxP_at hy hb hn).symm
      | false =>
        rw [hb] at hC
        refine callW_ms [.ro, .ro] ?_
        simp
        refine callX_of hC (by simp) ?_
        simp [hw, q0, q1, q7, q8]
        refine ⟨hlt, fun a b c d e hab => ?_⟩
        rw [take_snoc hy, List.mem_append, List.mem_singleton] at hab
        rcases hab with hab | rfl
        · exact hn _ hab
        · exact hb
    · obtain rfl : j = L.length := by omega
      rw [List.take_of_length_le (Nat.le_refl _)] at hn
      exact (idxP_none hn).symm
theorem w191 (L : List CellP) (x : CellP) (hL : L.length ≤ 2^40) : Contract Try.prog false 191 [.ro, .ro] [.sl false 5 (L.map clT), .fn 192 [.po false (clT x)]] [.b (decide (x.1 ∈ L.map (·.1)))] [] := by
  refine mk_contract [] Try.func191 (c := Try.f191.body.get!) (by kernel_rfl) k191 r191 (of_decide_eq_true rfl) fun _ => ?_
  have hE : 0 ≤ idxP (sameC x) L ↔ x.1 ∈ L.map (·.1) := by
    rw [idxP_ge, List.mem_map]
    exact ⟨fun ⟨y, h1, h2⟩ => ⟨y, h1, of_decide_eq_true h2⟩, fun ⟨y, h1, h2⟩ => ⟨y, h1, decide_eq_true h2⟩⟩
  unfold c191; simp
  refine callW_ms [.ro, .ro] ?_
  simp
  refine callX_of (w223 L x hL) (by simp) ?_
  simp [hE]
theorem cellsP_snoc {c : List DclP} {l : List CellP} {x : CellP} : cellsP c (l ++ [x]) ↔ cellsP c l ∧ fitP c x.1 x.2 ∧ x.1 ∉ l.map (·.1) := by
  unfold cellsP
  simp only [List.mem_append, List.mem_singleton, List.map_append, List.map_cons, List.map_nil, List.nodup_append, List.nodup_cons]
  constructor
  · rintro ⟨h1, h2, _, h3⟩
    exact ⟨⟨fun y hy => h1 y (.inl hy), h2⟩, h1 x (.inr rfl), fun hx => h3 _ hx _ (by simp) rfl⟩
  · rintro ⟨⟨h1, h2⟩, h3, h4⟩
    refine ⟨fun y hy => ?_, h2, by simp, fun y hy z hz => ?_⟩
    · rcases hy with hy | rfl
      · exact h1 y hy
      · exact h3
    · subst hz; rintro rfl; exact h4 hy
theorem cellsP_take {c : List DclP} {l : List CellP} (h : cellsP c l) (j : Nat) : cellsP c (l.take j) :=
  ⟨fun x hx => h.1 x (List.mem_of_mem_take hx), by rw [List.map_take]; exact h.2.sublist (List.take_sublist j _)⟩
theorem w152 (c r e : List DclP) (l : List CellP) (hc : c.length ≤ 2^40) (hl : l.length ≤ 2^40) : Contract Try.prog false 152 [.ro, .ro] [.po false [.sl false 2 (c.map dT), .sl false 2 (r.map dT), .sl false 2 (e.map dT)], .sl false 5 (l.map clT)] [.b (decide (cellsP c l))] [] := by
  refine mk_contract [] Try.func152 (c := Try.f152.body.get!) (by kernel_rfl) k152 r152 (of_decide_eq_true rfl) fun _ => ?_
  unfold c152; simp
  refine twp_for l.length (fun j s => s.t 0 = .po false [.sl false 2 (c.map dT), .sl false 2 (r.map dT), .sl false 2 (e.map dT)] ∧ s.t 1 = .sl false 5 (l.map clT) ∧ s.t 7 = .sl false 5 (l.map clT) ∧ s.t 8 = .i .i64 l.length ∧ s.t 9 = .i .i64 j ∧ cellsP c (l.take j) ∧ s.H = lk [(1, [])]) [8] (by simp) ?_ ?_
  · simp [cellsP]
  · rintro j s hj ⟨q0, q1, q7, q8, q9, hok, qH⟩
    rw [nf_of qH]
    simp [q0, q1, q7, q8, q9]
    refine ⟨fun hlt => ?_, fun hge => ?_⟩
    · have hw : IntKind.i64.wrap (j + 1) = j + 1 := wrap_id (by omega) (by omega)
      obtain ⟨x, hx⟩ := get_some hlt
      have hsn : cellsP c (l.take (j + 1)) ↔ fitP c x.1 x.2 ∧ x.1 ∉ (l.take j).map (·.1) := by
        rw [take_snoc hx, cellsP_snoc]; exact ⟨fun h => h.2, fun h => ⟨hok, h⟩⟩
      have hno : ¬ cellsP c (l.take (j + 1)) → ¬ cellsP c l := fun h h2 => h (cellsP_take h2 _)
      simp [hx, hw, q0, q1, q7, q8, q9]
      by_cases h1 : fitP c x.1 x.2
      · refine callW_ms [.ro, .ro] ?_
        simp
        refine callX_of ((w153 c r e x hc).t h1) (by simp) ?_
        simp [q0, q1, q7, q8, q9]
        refine ⟨by omega, ?_⟩
        have hC := w191 (l.take j) x (by simp; omega)
        rw [List.map_take] at hC
        refine callW_ms [.ro, .ro] ?_
        simp
        by_cases h2 : x.1 ∈ (l.take j).map (·.1)
        · rw [decide_eq_true h2] at hC
          refine callX_of hC (by simp) ?_
          simp [hw, q0, q1, q7, q8, q9]
          exact hno fun h => (hsn.1 h).2 h2
        · rw [decide_eq_false h2] at hC
          refine callX_of hC (by simp) ?_
          simp [hw, q0, q1, q7, q8, q9]
          exact ⟨hlt, hsn.2 ⟨h1, h2⟩⟩
      · refine callW_ms [.ro, .ro] ?_
        simp
        refine callX_of ((w153 c r e x hc).f h1) (by simp) ?_
        simp [q0, q1, q7, q8, q9]
        exact hno fun h => h1 (hsn.1 h).1
    · obtain rfl : j = l.length := by omega
      rw [List.take_of_length_le (Nat.le_refl _)] at hok
      exact hok
def cmdP (c : List DclP) (x : CmdP) : Prop := if x.1 = 1 then cellsP c x.2.2.2.2 else if x.1 = 2 then True else if x.1 = 3 then fitP c x.2.2.1 x.2.2.2.1 else if x.1 = 4 then 0 ≤ x.2.2.1 ∧ x.2.2.1 ≤ (c.length : Int) - 1 else False
instance (c : List DclP) (x : CmdP) : Decidable (cmdP c x) := by unfold cmdP; infer_instance
theorem w92 (c r e : List DclP) (x : CmdP) (hc : c.length ≤ 2^40) (hl : x.2.2.2.2.length ≤ 2^40) : Contract Try.prog false 92 [.ro, .ro] [.po false [.sl false 2 (c.map dT), .sl false 2 (r.map dT), .sl false 2 (e.map dT)], cmdR x] [.b (decide (cmdP c x))] [] := by
  refine mk_contract [] Try.func92 (c := Try.f92.body.get!) (by kernel_rfl) k92 r92 (of_decide_eq_true rfl) fun _ => ?_
  have hw : IntKind.i64.wrap ((c.length : Int) - 1) = c.length - 1 := wrap_id (by omega) (by omega)
  unfold c92; simp
  by_cases h1 : x.1 = 1
  · simp [h1]
    refine callW_ms [.ro, .ro] ?_
    simp
    refine callX_of (w152 c r e x.2.2.2.2 hc hl) (by simp) ?_
    simp [cmdP, h1]
  by_cases h2 : x.1 = 2
  · simp [h2, cmdP]
  by_cases h3 : x.1 = 3
  · simp [h3]
    refine callW_ms [.ro, .ro] ?_
    simp
    refine callX_of (w153 c r e (x.2.2.1, x.2.2.2.1) hc) (by simp) ?_
    simp [cmdP, h3]
  by_cases h4 : x.1 = 4
  · simp [h4, hw]
    refine callW_ms [.ro, .ro, .ro] ?_
    simp
    refine callX_of (w154 x.2.2.1 0 (c.length - 1)) (by simp) ?_
    simp [cmdP, h4]
  · simp [h1, h2, h3, h4, cmdP]
theorem w46 (c r e : List DclP) (x : CmdP) (hc : c.length ≤ 2^40) (hr : r.length ≤ 2^40) (he : e.length ≤ 2^40) (hs : ∀ l ∈ [c, r, e], ∀ d ∈ l, d.1.size ≤ 2^40) (hl : x.2.2.2.2.length ≤ 2^40) : Contract Try.prog false 46 [.ro, .ro] [regR c r e, cmdR x] [.b (decide (RegOkP c r e ∧ cmdP c x))] [] := by
  refine mk_contract [] Try.func46 (c := Try.f46.body.get!) (by kernel_rfl) k46 r46 (of_decide_eq_true rfl) fun _ => ?_
  unfold c46; unfold regR; simp
  by_cases h1 : RegOkP c r e
  · refine callW_ms [.ro] ?_
    simp [regR]
    refine callX_of ((w91 c r e hc hr he hs).t h1) (by simp) ?_
    simp
    refine callW_ms [.ro, .ro] ?_
    simp
    refine callX_of (w92 c r e x hc hl) (by simp) ?_
    simp [h1]
  · refine callW_ms [.ro] ?_
    simp [regR]
    refine callX_of ((w91 c r e hc hr he hs).f h1) (by simp) ?_
    simp [h1]
theorem filt_at {α : Type} {p : α → Bool} {l : List α} {x : α} {i : Nat} (h : l[i]? = some x) : (l.take (i + 1)).filter p = (l.take i).filter p ++ (if p x then [x] else []) := by
  rw [take_snoc h, List.filter_append]; congr 1
  cases hp : p x <;> simp [hp]
theorem sortC_part (j i : Nat) (l : List CellP) : (sortC j l ++ (l.take i).filter (isC j)).length ≤ l.length := by
  have h1 := sortC_len (j + 1) l
  have h2 : ((l.take i).filter (isC j)).length ≤ (l.filter (isC j)).length := ((List.take_sublist i l).filter _).length_le
  simp only [sortC, List.length_append] at h1 ⊢
  omega
theorem w85 (c r e : List DclP) (l : List CellP) (hc : c.length ≤ 2^40) (hl : l.length ≤ 2^36) (hf : ∀ x ∈ l, valOkF x.2) : Contract Try.prog false 85 [.ro, .ro] [regR c r e, .sl false 5 (l.map clT)] [.sl true 5 ((l4S c l).1.map clT), .b (l4S c l).2] [] := by
  refine mk_contract [] Try.func85 (c := Try.f85.body.get!) (by kernel_rfl) k85 r85 (of_decide_eq_true rfl) fun _ => ?_
  unfold c85; unfold regR; simp
  refine ⟨fun hlen => ?_, fun hlen => ?_⟩
  · simp [l4S, hlen]
  refine twp_post (fun sz => sz.t 1 = .sl false 5 (l.map clT) ∧ sz.t 2 = .pt [(4, 0)] 0 0 ∧ sz.t 6 = .rf [(45, 0)] 0 (sortC c.length l).length ∧ sz.H = lk [(1, []), (4, [.po true [.sl false 2 (c.map dT), .sl false 2 (r.map dT), .sl false 2 (e.map dT)]]), (45, [.sl true 5 ((sortC c.length l).map clT)])]) ?_ ?_
  · refine twp_forR c.length (fun j s => s.t 1 = .sl false 5 (l.map clT) ∧ s.t 2 = .pt [(4, 0)] 0 0 ∧ s.t 6 = .rf [(45, 0)] 0 (sortC j l).length ∧ s.t 7 = .i .i64 j ∧ s.H = lk [(1, []), (4, [.po true [.sl false 2 (c.map dT), .sl false 2 (r.map dT), .sl false 2 (e.map dT)]]), (45, [.sl true 5 ((sortC j l).map clT)])]) [44] [(18, 45)] (by simp) (by simp) ?_ ?_
    · simp [sortC]
    · rintro j s hj ⟨q1, q2, q6, q7, qH⟩
      rw [nf_of qH]
      simp [q1, q2, q6, q7]
      refine ⟨fun hlt => ?_, fun hge => ?_⟩
      · have hw : IntKind.i64.wrap (j + 1) = j + 1 := wrap_id (by omega) (by omega)
        refine twp_for l.length (fun i s2 => s2.t 1 = .sl false 5 (l.map clT) ∧ s2.t 2 = .pt [(4, 0)] 0 0 ∧ s2.t 6 = .rf [(45, 0)] 0 (sortC j l ++ (l.take i).filter (isC j)).length ∧ s2.t 7 = .i .i64 j ∧ s2.t 8 = .i .i64 i ∧ s2.H = lk [(1, []), (4, [.po true [.sl false 2 (c.map dT), .sl false 2 (r.map dT), .sl false 2 (e.map dT)]]), (45, [.sl true 5 ((sortC j l ++ (l.take i).filter (isC j)).map clT)])]) [44] (by simp) ?_ ?_
        · simp [q1, q2, q6, q7]
        · rintro i s2 hi ⟨p1, p2, p6, p7, p8, pH⟩
          rw [nf_of pH]
          simp [p1, p2, p6, p7, p8]
          refine ⟨fun hlt2 => ?_, fun hge2 => ?_⟩
          · have hwi : IntKind.i64.wrap (i + 1) = i + 1 := wrap_id (by omega) (by omega)
            obtain ⟨x, hx⟩ := get_some hlt2
            have hat := filt_at (p := isC j) hx
            have hpl := sortC_part j (i + 1) l
            simp only [List.length_append] at hpl
            simp [hx, hwi, p1, p2, p6, p7, p8]
            by_cases hxj : x.1 = j
            · rw [if_pos (by simp [isC, hxj])] at hat
              rw [hat] at hpl
              simp at hpl
              simp [hxj, hx, hwi, p1, p2, p6, p7, p8, hat]
              exact ⟨by omega, hlt2, by omega⟩
            · rw [if_neg (by simp [isC, hxj]), List.append_nil] at hat
              simp [hxj, hwi, p1, p2, p6, p7, p8, hat]
              exact hlt2
          · obtain rfl : i = l.length := by omega
            simp [p1, p2, p6, p7, p8, hw]
            refine ⟨hlt, by simp [sortC], by simp [sortC]⟩
      · obtain rfl : j = c.length := by omega
        simp [q1, q2, q6, q7]
  · rintro sz ⟨z1, z2, z6, zH⟩
    rw [nf_of zH]
    simp [z1, z2, z6]
    have hS : l4S c l = if ∀ j, ¬ badAt c (sortC c.length l) j then (sortC c.length l, decide ((sortC c.length l).length = l.length)) else ([], false) := by
      unfold l4S; rw [if_neg (by omega)]
    have ho : ∀ x ∈ sortC c.length l, valOkF x.2 := fun x hx => hf x (sortC_mem hx).1
    have hol := sortC_len c.length l
    rw [hS]
    generalize sortC c.length l = o at *
    have hno : ∀ m, badAt c o m → (if ∀ j, ¬ badAt c o j then (o, decide (o.length = l.length)) else ([], false)) = (([], false) : List CellP × Bool) := fun m hm => if_neg fun h => h m hm
    refine twp_for o.length (fun j s => s.t 1 = .sl false 5 (l.map clT) ∧ s.t 2 = .pt [(4, 0)] 0 0 ∧ s.t 6 = .rf [(45, 0)] 0 o.length ∧ s.t 9 = .i .i64 j ∧ (∀ i, i < j → ¬ badAt c o i) ∧ s.H = lk [(1, []), (4, [.po true [.sl false 2 (c.map dT), .sl false 2 (r.map dT), .sl false 2 (e.map dT)]]), (45, [.sl true 5 (o.map clT)])]) [] (by simp) ?_ ?_
    · simp [z1, z2, z6]
    · rintro j s hj ⟨q1, q2, q6, q9, hg, qH⟩
      rw [nf_of qH]
      simp [q1, q2, q6, q9]
      refine ⟨fun hlt => ?_, fun hge => ?_⟩
      · have hw : IntKind.i64.wrap (j + 1) = j + 1 := wrap_id (by omega) (by omega)
        obtain ⟨y, hy⟩ := get_some hlt
        simp [hy, hw, q1, q2, q6, q9]
        refine ⟨hlt, ?_⟩
        by_cases hfit : fitP c y.1 y.2
        · have hstep : (∀ i, i < j → ¬ badAt c o i) → ¬ badAt c o j → ∀ i, i < j + 1 → ¬ badAt c o i := fun h1 h2 i hi => by
            rcases Nat.lt_or_ge i j with h3 | h3
            · exact h1 i h3
            · obtain rfl : i = j := by omega
              exact h2
          rcases Nat.eq_zero_or_pos j with h0 | h0
          · subst h0
            refine callW_ms [.ro, .ro, .ro] ?_
            simp [regR, valV]
            refine callX_of ((w86 c r e y.1 y.2 (ho y (List.mem_of_getElem? hy)) hc).t hfit) (by simp) ?_
            simp [hw, q1, q2, q6, q9, hy]
            refine ⟨hlt, by decide, ?_⟩
            rintro ⟨y', hy', hb | ⟨hb, _⟩⟩
            · rw [hy] at hy'; cases hy'; exact hb hfit
            · omega
          · obtain ⟨k, rfl⟩ : ∃ k, j = k + 1 := ⟨j - 1, by omega⟩
            have hwk : IntKind.i64.wrap (k : Int) = k := wrap_id (by omega) (by omega)
            have hpos : (0 : Int) < (k : Int) + 1 := by omega
            obtain ⟨u, hu⟩ := get_some (l := o) (j := k) (by omega)
            refine callW_ms [.ro, .ro, .ro] ?_
            simp [regR, valV]
            refine callX_of ((w86 c r e y.1 y.2 (ho y (List.mem_of_getElem? hy)) hc).t hfit) (by simp) ?_
            simp [hw, q1, q2, q6, q9, hy, hpos, hwk, hu]
            refine ⟨by omega, by omega, by omega, fun he => ?_, fun he => ⟨by omega, wrap_id (by omega) (by omega), hstep hg ?_⟩⟩
            · rw [hno (k + 1) ⟨y, hy, .inr ⟨by omega, u, by simpa using hu, he⟩⟩]
              exact ⟨rfl, rfl⟩
            · rintro ⟨y', hy', hb | ⟨_, x', hx', hxy⟩⟩
              · rw [hy] at hy'; cases hy'; exact hb hfit
              · rw [hy] at hy'; cases hy'
                simp at hx'
                rw [hu] at hx'; cases hx'; exact he hxy
        · refine callW_ms [.ro, .ro, .ro] ?_
          simp [regR, valV]
          refine callX_of ((w86 c r e y.1 y.2 (ho y (List.mem_of_getElem? hy)) hc).f hfit) (by simp) ?_
          simp [hw, q1, q2, q6, q9]
          rw [hno j ⟨y, hy, .inl hfit⟩]
          exact ⟨rfl, rfl⟩
      · obtain rfl : j = o.length := by omega
        have hall : ∀ j, ¬ badAt c o j := fun i => by
          by_cases hi : i < o.length
          · exact hg i hi
          · rintro ⟨y, hy, _⟩
            rw [List.getElem?_eq_none (by omega)] at hy; cases hy
        rw [if_pos hall]
        simp [q1, q2, q6, q9]
        omega
theorem w43 (c r e : List DclP) (x : CmdP) (hc : c.length ≤ 2^40) (hr : r.length ≤ 2^40) (he : e.length ≤ 2^40) (hl : x.2.2.2.2.length ≤ 2^36) (hf : ∀ y ∈ x.2.2.2.2, valOkF y.2) (hv : valOkF x.2.2.2.1) : Contract Try.prog false 43 [.ro, .ro] [regR c r e, cmdR x] [.b (decide (RegOkP c r e ∧ cmdP c x))] [] := by
  refine mk_contract [] Try.func43 (c := Try.f43.body.get!) (by kernel_rfl) k43 r43 (of_decide_eq_true rfl) fun _ => ?_
  have hw : IntKind.i64.wrap ((c.length : Int) - 1) = c.length - 1 := wrap_id (by omega) (by omega)
  unfold c43; unfold regR; simp
  by_cases g1 : RegOkP c r e
  · refine callW_ms [.ro] ?_
    simp [regR]
    refine callX_of ((w84 c r e hc hr he).t g1) (by simp) ?_
    simp
    by_cases h1 : x.1 = 1
    · simp [h1]
      have hC := w85 c r e x.2.2.2.2 hc hl hf
      rw [l4S_b] at hC
      refine callW_ms [.ro, .ro] ?_
      simp
      refine callX_of hC (by simp [regR]) ?_
      simp [g1, cmdP, h1]
    by_cases h2 : x.1 = 2
    · simp [h2, cmdP, g1]
    by_cases h3 : x.1 = 3
    · simp [h3]
      refine callW_ms [.ro, .ro, .ro] ?_
      simp [regR, valV]
      refine callX_of (w86 c r e x.2.2.1 x.2.2.2.1 hv hc) (by simp) ?_
      simp [cmdP, h3, g1]
    by_cases h4 : x.1 = 4
    · simp [h4, hw]
      refine callW_ms [.ro, .ro, .ro] ?_
      simp
      refine callX_of (w87 x.2.2.1 0 (c.length - 1)) (by simp) ?_
      simp [cmdP, h4, g1]
    · simp [h1, h2, h3, h4, cmdP]
  · refine callW_ms [.ro] ?_
    simp [regR]
    refine callX_of ((w84 c r e hc hr he).f g1) (by simp) ?_
    simp [g1]
theorem w8 (c r e : List DclP) (x : CmdP) (hc : bndD c) (hr : bndD r) (he : bndD e) (hl : x.2.2.2.2.length < 2^63) (hf : ∀ y ∈ x.2.2.2.2, valOkF y.2) (hv : valOkF x.2.2.2.1) : Contract Try.prog false 8 [.ro, .ro] [regR c r e, cmdR x] [.b true] [] := by
  refine mk_contract [] Try.func8 (c := Try.f8.body.get!) (by kernel_rfl) k8 r8 (of_decide_eq_true rfl) fun _ => ?_
  unfold c8; unfold regR; simp
  refine callW_ms [.ro, .ro] ?_
  simp [regR]
  refine callX_of (w41 c r e _ hc hr he (by omega) (by omega)) (by simp) ?_
  simp
  intro h
  obtain ⟨n0, n1, hok⟩ := szRegF_ok (k := 2^20) (by omega) (by omega) (by omega : ¬ szRegF c r e 1048576 < 0)
  obtain ⟨hc2, hr2, he2⟩ := id hok
  have hall := okD_all ⟨okD_mono hok.1 (by omega : 2^20 ≤ 2^40), okD_mono hok.2.1 (by omega), okD_mono hok.2.2 (by omega)⟩
  have := hc2.1
  have := hr2.1
  have := he2.1
  generalize szRegF c r e 1048576 = n at *
  refine callW_ms [.ro, .ro] ?_
  simp
  refine callX_of (w42 x n hl (by omega) n0) (by simp) ?_
  simp
  intro h2
  have e2 := szCm_C.eq x n n0 (by omega)
  have hlx : x.2.2.2.2.length ≤ 2^36 := by omega
  refine callW_ms [.ro] ?_
  simp [regR]
  refine callX_of (w44 c r e (by omega) (by omega) (by omega)) (by simp) ?_
  simp [regO]
  refine callW_ms [.ro] ?_
  simp
  refine callX_of (w45 x (by omega)) (by simp) ?_
  simp
  refine callW_ms [.ro, .ro] ?_
  simp [regR]
  refine callX_of (w43 c r e x (by omega) (by omega) (by omega) hlx hf hv) (by simp) ?_
  simp
  refine callW_ms [.ro] ?_
  simp [regR]
  refine callX_of (w44 c r e (by omega) (by omega) (by omega)) (by simp) ?_
  simp [regO]
  refine callW_ms [.ro] ?_
  simp
  refine callX_of (w45 x (by omega)) (by simp) ?_
  simp
  refine callW_ms [.ro, .ro] ?_
  simp [regR]
  refine callX_of (w46 c r e x (by omega) (by omega) (by omega) hall (by omega)) (by simp) ?_
  simp
  refine callW_ms [.ro] ?_
  simp [regR]
  refine callX_of (w44 c r e (by omega) (by omega) (by omega)) (by simp) ?_
  simp [regO]
  refine callW_ms [.ro, .ro] ?_
  simp [regR]
  refine callX_of (w47 c r e c r e (by omega) (by omega) (by omega) (by omega) (by omega) (by omega)) (by simp) ?_
  simp
  refine callW_ms [.ro] ?_
  simp
  refine callX_of (w45 x (by omega)) (by simp) ?_
  simp
  refine callW_ms [.ro, .ro] ?_
  simp
  refine callX_of (w48 x (by omega)) (by simp) ?_
  simp
end Go.Proofs.YtmedelmfkciblaaT
