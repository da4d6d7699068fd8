/- Streams: right, turned, sent to, read. -/
import Derived.Test.YtmedelmfkciblaaKw1
namespace Go.Proofs.YtmedelmfkciblaaT
set_option linter.unusedVariables false
set_option linter.unusedSimpArgs false
open Go

/- impl.isOf -/
def c193 : TCode := (.seq (.ops [⟨(some 2), 4, .box 4 (.t 0), none, []⟩, ⟨(some 4), 6, .mv (.c (.b false)), none, []⟩])
  (.seq (.ops [⟨(some 5), 7, .faddr 0 1 (.t 2), none, []⟩, ⟨(some 6), 8, .load false 1 (.t 5), none, []⟩, ⟨(some 7), 9, .mv (.t 1), none, []⟩, ⟨(some 8), 10, .bin .eql (.t 6) (.t 7), none, []⟩, ⟨(some 9), 11, .mv (.t 8), none, []⟩, ⟨(some 10), 12, .load true 4 (.t 2), (some (9, true)), []⟩, ⟨(some 11), 13, .call 224 [((.t 10), 0)], (some (9, true)), []⟩, ⟨(some 12), 14, .pick (.t 9) (.t 11) (.c (.b false)), none, []⟩, ⟨(some 4), 6, .mv (.t 12), none, []⟩])
  .ret))
theorem k193 : compCode Try.prog Try.f193.ntmps Try.f193.body.get! = some c193 := by kernel_rfl
theorem r193 : resTmps Try.prog Try.f193.results.toList = some [.tmp 4] := by kernel_rfl

/-- A stream: first, old, new. -/
abbrev StrP := Int × List ValP × List ValP
def strR (s : StrP) : TV := .ag [.i .i64 s.1, .sl false 4 (s.2.1.map vT), .sl false 4 (s.2.2.map vT)]
def strO (s : StrP) : TV := .ag [.i .i64 s.1, .sl true 4 (s.2.1.map vT), .sl true 4 (s.2.2.map vT)]
def strB (k : Nat) (s : StrP) : Prop := s.2.1.length ≤ k ∧ s.2.2.length ≤ k
def valsF (l : List ValP) : Prop := ∀ v ∈ l, valOkF v
def szStrF (s : StrP) (n : Int) : Int := if szF n s.2.1.length < 0 then -1 else szF (szF n s.2.1.length) s.2.2.length
theorem szStr_ok {s : StrP} {n : Int} {k : Nat} (h0 : 0 ≤ n) (hk : n ≤ k) (h : ¬ szStrF s n < 0) : 0 ≤ szStrF s n ∧ szStrF s n ≤ n ∧ strB k s := by
  unfold szStrF at h ⊢
  split at h
  · omega
  · rename_i h1
    rw [if_neg h1]
    obtain ⟨a1, a2⟩ := szF_pos (by omega : 0 ≤ szF n s.2.1.length)
    obtain ⟨b1, b2⟩ := szF_pos (by omega : 0 ≤ szF (szF n s.2.1.length) s.2.2.length)
    exact ⟨by omega, by omega, by omega, by omega⟩
def ofK (k : Int) (v : ValP) : Prop := v.1 = k ∧ ValOkP v
instance (k : Int) (v : ValP) : Decidable (ofK k v) := by unfold ofK; infer_instance
def allOf (k : Int) (l : List ValP) : Prop := (∀ v ∈ l, ofK k v) ∧ l.length ≤ 200
instance (k : Int) (l : List ValP) : Decidable (allOf k l) := by unfold allOf; infer_instance
def StrOkP (k : Int) (s : StrP) : Prop := (0 ≤ s.1 ∧ s.1 ≤ 1000000000000) ∧ allOf k s.2.1 ∧ allOf k s.2.2
instance (k : Int) (s : StrP) : Decidable (StrOkP k s) := by unfold StrOkP; infer_instance
theorem w193 (v : ValP) (k : Int) : Contract Try.prog false 193 [.ro, .ro] [valV v, .i .i64 k] [.b (decide (ofK k v))] [] := by
  refine mk_contract [] Try.func193 (c := Try.f193.body.get!) (by kernel_rfl) k193 r193 (of_decide_eq_true rfl) fun _ => ?_
  obtain ⟨v1, v2⟩ := v
  unfold c193; unfold valV; simp
  by_cases h : v1 = k
  · subst h
    simp
    refine callW_ms [.ro] ?_
    simp
    refine callX_of (w224 (v1, v2)) (by simp) ?_
    simp [ofK]
  · simp [h, ofK]
theorem allOf_take {k : Int} {l : List ValP} (h : allOf k l) (x : ValP) (hx : x ∈ l) : ofK k x := h.1 x hx
def turnS (s : StrP) : StrP := (if 0 ≤ s.1 ∧ s.1 ≤ 1000000000000 - (s.2.1.length : Int) then s.1 + s.2.1.length else 0, s.2.2, [])
def sendS (k : Int) (s : StrP) (v : ValP) : StrP × Bool := if StrOkP k s ∧ ofK k v ∧ s.2.2.length < 200 then ((s.1, s.2.1, s.2.2 ++ [v]), true) else (s, false)
theorem sendS_len (k : Int) (s : StrP) (v : ValP) : (sendS k s v).1.2.1.length = s.2.1.length ∧ (sendS k s v).1.2.2.length ≤ s.2.2.length + 1 := by
  unfold sendS; split <;> simp
end Go.Proofs.YtmedelmfkciblaaT
