/- Regs: kinds and places. -/
import Derived.Test.YtloodkhdngipbaaKh
namespace Go.Proofs.YtloodkhdngipbaaT
set_option linter.unusedVariables false
set_option linter.unusedSimpArgs false
open Go

/- (*impl.Reg).decls -/
def c124 : TCode := (.seq (.ops [⟨(some 4), 6, .mv (.c (.sl true 2 [])), none, []⟩])
  (.seq (.seq (.ops [⟨(some 5), 7, .mv (.t 1), none, []⟩])
  (.block 0 (.seq (.ops [⟨(some 7), 9, .bin .eql (.t 5) (.c (.i .i64 1)), none, []⟩, ⟨(some 6), 8, .mv (.t 7), none, []⟩])
  (.cond (.t 6)
  (.seq (.ops [⟨(some 8), 10, .mv (.t 0), none, []⟩, ⟨(some 9), 11, .nilck (.t 8), none, []⟩, ⟨(some 10), 12, .faddr 0 1 (.t 9), none, []⟩, ⟨(some 11), 13, .load false 1 (.t 10), none, []⟩, ⟨(some 4), 6, .mv (.t 11), none, []⟩])
  .ret)
  (.seq (.ops [⟨(some 13), 15, .bin .eql (.t 5) (.c (.i .i64 2)), none, []⟩, ⟨(some 12), 14, .mv (.t 13), none, []⟩])
  (.cond (.t 12)
  (.seq (.ops [⟨(some 14), 16, .mv (.t 0), none, []⟩, ⟨(some 15), 17, .nilck (.t 14), none, []⟩, ⟨(some 16), 18, .faddr 1 1 (.t 15), none, []⟩, ⟨(some 17), 19, .load false 1 (.t 16), none, []⟩, ⟨(some 4), 6, .mv (.t 17), none, []⟩])
  .ret)
  (.seq (.ops [⟨(some 19), 21, .bin .eql (.t 5) (.c (.i .i64 3)), none, []⟩, ⟨(some 18), 20, .mv (.t 19), none, []⟩])
  (.cond (.t 18)
  (.seq (.ops [⟨(some 20), 22, .mv (.t 0), none, []⟩, ⟨(some 21), 23, .nilck (.t 20), none, []⟩, ⟨(some 22), 24, .faddr 2 1 (.t 21), none, []⟩, ⟨(some 23), 25, .load false 1 (.t 22), none, []⟩, ⟨(some 4), 6, .mv (.t 23), none, []⟩])
  .ret)
  .skip))))))))
  (.seq (.ops [⟨(some 4), 6, .mv (.c (.sl true 2 [])), none, []⟩])
  .ret)))
theorem k124 : compCode Try.prog Try.f124.ntmps Try.f124.body.get! = some c124 := by kernel_rfl
theorem r124 : resTmps Try.prog Try.f124.results.toList = some [.tmp 4] := by kernel_rfl
/- (*impl.Reg).kind -/
def c104 : TCode := (.seq (.ops [⟨(some 6), 8, .mv (.c (.i .i64 0)), none, []⟩])
  (.seq (.ops [⟨(some 8), 10, .mv (.t 0), none, []⟩, ⟨(some 9), 11, .mv (.t 1), none, []⟩, ⟨(some 10), 12, .call 124 [((.t 8), 3), ((.t 9), 0)], none, []⟩, ⟨(some 7), 9, .mv (.t 10), none, []⟩])
  (.seq (.seq (.ops [⟨(some 11), 13, .mv (.t 2), none, []⟩, ⟨(some 12), 14, .mv (.t 7), none, []⟩, ⟨(some 13), 15, .len false (.t 12), none, []⟩, ⟨(some 14), 16, .bin .sub (.t 13) (.c (.i .i64 1)), none, []⟩, ⟨(some 15), 17, .call 74 [((.t 11), 0), ((.c (.i .i64 0)), 0), ((.t 14), 0)], none, []⟩, ⟨(some 16), 18, .un .not (.t 15), none, []⟩])
  (.cond (.t 16)
  (.seq (.ops [⟨(some 6), 8, .mv (.c (.i .i64 0)), none, []⟩])
  .ret)
  .skip))
  (.seq (.ops [⟨(some 17), 19, .mv (.t 7), none, []⟩, ⟨(some 18), 20, .mv (.t 2), none, []⟩, ⟨(some 19), 21, .iaddr 2 (.t 17) (.t 18), none, []⟩, ⟨(some 20), 22, .faddr 1 1 (.t 19), none, []⟩, ⟨(some 21), 23, .load false 1 (.t 20), none, []⟩, ⟨(some 6), 8, .mv (.t 21), none, []⟩])
  .ret))))
theorem k104 : compCode Try.prog Try.f104.ntmps Try.f104.body.get! = some c104 := by kernel_rfl
theorem r104 : resTmps Try.prog Try.f104.results.toList = some [.tmp 6] := by kernel_rfl
/- impl.RegKind -/
def c52 : TCode := (.seq (.ops [⟨(some 3), 5, .box 3 (.t 0), none, []⟩, ⟨(some 6), 8, .mv (.c (.i .i64 0)), none, []⟩])
  (.seq (.seq (.ops [⟨(some 7), 9, .load true 3 (.t 3), none, []⟩, ⟨(some 8), 10, .call 49 [((.t 7), 0)], none, []⟩, ⟨(some 9), 11, .un .not (.t 8), none, []⟩])
  (.cond (.t 9)
  (.seq (.ops [⟨(some 6), 8, .mv (.c (.i .i64 0)), none, []⟩])
  .ret)
  .skip))
  (.seq (.ops [⟨(some 10), 12, .mv (.t 1), none, []⟩, ⟨(some 11), 13, .mv (.t 2), none, []⟩, ⟨(some 12), 14, .call 104 [((.t 3), 0), ((.t 10), 0), ((.t 11), 0)], none, []⟩, ⟨(some 6), 8, .mv (.t 12), none, []⟩])
  .ret)))
theorem k52 : compCode Try.prog Try.f52.ntmps Try.f52.body.get! = some c52 := by kernel_rfl
theorem r52 : resTmps Try.prog Try.f52.results.toList = some [.tmp 6] := by kernel_rfl
/- (*impl.Reg).find$1 -/
def c145 : TCode := (.seq (.ops [⟨(some 2), 4, .box 2 (.t 0), none, []⟩, ⟨(some 3), 5, .mv (.c (.b false)), none, []⟩])
  (.seq (.ops [⟨(some 4), 6, .faddr 0 1 (.t 2), none, []⟩, ⟨(some 5), 7, .load false 1 (.t 4), none, []⟩, ⟨(some 6), 8, .load false 1 (.t 1), none, []⟩, ⟨(some 7), 9, .bin .eql (.t 5) (.t 6), none, []⟩, ⟨(some 3), 5, .mv (.t 7), none, []⟩])
  .ret))
theorem k145 : compCode Try.prog Try.f145.ntmps Try.f145.body.get! = some c145 := by kernel_rfl
theorem r145 : resTmps Try.prog Try.f145.results.toList = some [.tmp 3] := by kernel_rfl
/- slices.IndexFunc[[]impl.Decl,impl.Decl] -/
def c144 : TCode := (.seq (.ops [⟨(some 4), 6, .mv (.c (.i .i64 0)), none, []⟩])
  (.seq (.seq (.ops [⟨(some 6), 8, .mv (.t 0), none, []⟩, ⟨(some 7), 9, .len false (.t 6), none, []⟩, ⟨(some 8), 10, .mv (.c (.i .i64 0)), none, []⟩])
  (.block 0 (.loop (.seq (.ops [⟨(some 9), 11, .bin .lss (.t 8) (.t 7), none, []⟩])
  (.seq (.cond (.t 9)
  .skip
  (.exit 0))
  (.seq (.block 1 (.seq (.ops [⟨(some 10), 12, .mv (.t 8), none, []⟩, ⟨(some 5), 7, .mv (.t 10), none, []⟩])
  (.seq (.ops [⟨(some 11), 13, .mv (.t 1), none, []⟩, ⟨(some 12), 14, .mv (.t 0), none, []⟩, ⟨(some 13), 15, .mv (.t 5), none, []⟩, ⟨(some 14), 16, .iaddr 2 (.t 12) (.t 13), none, []⟩, ⟨(some 15), 17, .load true 2 (.t 14), none, []⟩, ⟨(some 16), 18, .callv (.t 11) [((.t 15), 0)], none, []⟩])
  (.cond (.t 16)
  (.seq (.ops [⟨(some 17), 19, .mv (.t 5), none, []⟩, ⟨(some 4), 6, .mv (.t 17), none, []⟩])
  .ret)
  .skip))))
  (.ops [⟨(some 18), 20, .bin .add (.t 8) (.c (.i .i64 1)), none, []⟩, ⟨(some 8), 10, .mv (.t 18), none, []⟩])))))))
  (.seq (.ops [⟨(some 4), 6, .mv (.c (.i .i64 (-1))), none, []⟩])
  .ret)))
theorem k144 : compCode Try.prog Try.f144.ntmps Try.f144.body.get! = some c144 := by kernel_rfl
theorem r144 : resTmps Try.prog Try.f144.results.toList = some [.tmp 4] := by kernel_rfl
/- (*impl.Reg).find -/
def c103 : TCode := (.seq (.ops [⟨(some 5), 7, .box 1 (.t 2), none, []⟩, ⟨(some 6), 8, .mv (.c (.i .i64 0)), none, []⟩])
  (.seq (.ops [⟨(some 7), 9, .mv (.t 0), none, []⟩, ⟨(some 8), 10, .mv (.t 1), none, []⟩, ⟨(some 9), 11, .call 124 [((.t 7), 3), ((.t 8), 0)], none, []⟩, ⟨(some 10), 12, .mkfn 145 [(.t 5)], none, []⟩, ⟨(some 11), 13, .call 144 [((.t 9), 0), ((.t 10), 0)], none, []⟩, ⟨(some 6), 8, .mv (.t 11), none, []⟩])
  .ret))
theorem k103 : compCode Try.prog Try.f103.ntmps Try.f103.body.get! = some c103 := by kernel_rfl
theorem r103 : resTmps Try.prog Try.f103.results.toList = some [.tmp 6] := by kernel_rfl
/- impl.RegFind -/
def c51 : TCode := (.seq (.ops [⟨(some 3), 5, .box 3 (.t 0), none, []⟩, ⟨(some 6), 8, .mv (.c (.i .i64 0)), none, []⟩])
  (.seq (.seq (.ops [⟨(some 7), 9, .load true 3 (.t 3), none, []⟩, ⟨(some 8), 10, .call 49 [((.t 7), 0)], none, []⟩, ⟨(some 9), 11, .un .not (.t 8), none, []⟩])
  (.cond (.t 9)
  (.seq (.ops [⟨(some 6), 8, .mv (.c (.i .i64 (-1))), none, []⟩])
  .ret)
  .skip))
  (.seq (.ops [⟨(some 10), 12, .mv (.t 1), none, []⟩, ⟨(some 11), 13, .mv (.t 2), none, []⟩, ⟨(some 12), 14, .call 103 [((.t 3), 0), ((.t 10), 0), ((.t 11), 0)], none, []⟩, ⟨(some 6), 8, .mv (.t 12), none, []⟩])
  .ret)))
theorem k51 : compCode Try.prog Try.f51.ntmps Try.f51.body.get! = some c51 := by kernel_rfl
theorem r51 : resTmps Try.prog Try.f51.results.toList = some [.tmp 6] := by kernel_rfl

def sortL (c r e : List (ByteArray × Int)) (s : Int) : List (ByteArray × Int) := if s = 1 then c else if s = 2 then r else if s = 3 then e else []
def sortR (c r e : List (ByteArray × Int)) (s : Int) : TV := if s = 1 then .sl false 2 (c.map dT) else if s = 2 then .sl false 2 (r.map dT) else if s = 3 then .sl false 2 (e.map dT) else .sl true 2 []
theorem sortR_cases (c r e : List (ByteArray × Int)) (s : Int) : (sortR c r e s = .sl true 2 [] ∧ sortL c r e s = []) ∨ sortR c r e s = .sl false 2 ((sortL c r e s).map dT) := by
  unfold sortR sortL
  split
  · exact .inr rfl
  · split
    · exact .inr rfl
    · split
      · exact .inr rfl
      · exact .inl ⟨rfl, rfl⟩
theorem sortL_len {c r e : List (ByteArray × Int)} {k : Nat} (s : Int) (hc : c.length ≤ k) (hr : r.length ≤ k) (he : e.length ≤ k) : (sortL c r e s).length ≤ k := by
  unfold sortL; split
  · exact hc
  · split
    · exact hr
    · split
      · exact he
      · simp
theorem w124 (c r e : List (ByteArray × Int)) (s : Int) : Contract Try.prog true 124 [.ro, .ro] [.po false [.sl false 2 (c.map dT), .sl false 2 (r.map dT), .sl false 2 (e.map dT)], .i .i64 s] [sortR c r e s] [] := by
  refine mk_contract [] Try.func124 (c := Try.f124.body.get!) (by kernel_rfl) k124 r124 (of_decide_eq_true rfl) fun _ => ?_
  unfold c124; unfold sortR; simp
  by_cases h1 : s = 1
  · simp [h1]
  by_cases h2 : s = 2
  · simp [h2]
  by_cases h3 : s = 3
  · simp [h3]
  simp [h1, h2, h3]
def kindF (L : List (ByteArray × Int)) (a : Int) : Int := if 0 ≤ a ∧ a ≤ (L.length : Int) - 1 then ((L[a.toNat]?).map (·.2)).getD 0 else 0
theorem w104 (c r e : List (ByteArray × Int)) (s a : Int) (hc : c.length ≤ 2^40) (hr : r.length ≤ 2^40) (he : e.length ≤ 2^40) : Contract Try.prog false 104 [.ro, .ro, .ro] [.po false [.sl false 2 (c.map dT), .sl false 2 (r.map dT), .sl false 2 (e.map dT)], .i .i64 s, .i .i64 a] [.i .i64 (kindF (sortL c r e s) a)] [] := by
  refine mk_contract [] Try.func104 (c := Try.f104.body.get!) (by kernel_rfl) k104 r104 (of_decide_eq_true rfl) fun _ => ?_
  unfold c104; simp
  have hC := w124 c r e s
  have hlen := sortL_len s hc hr he
  refine callW_ms [.ro, .ro] ?_
  simp
  refine callX_of hC (by simp) ?_
  obtain ⟨L, hL⟩ : ∃ L, L = sortL c r e s := ⟨_, rfl⟩
  rcases sortR_cases c r e s with ⟨h1, h2⟩ | h1
  · rw [h1, h2]
    simp
    refine callW_ms [.ro, .ro, .ro] ?_
    simp
    refine callX_of ((w74 a 0 (-1)).f (by omega)) (by simp) ?_
    simp
    simp [kindF]
  · rw [h1]
    rw [← hL] at hlen ⊢
    have hw2 : IntKind.i64.wrap (L.length - 1) = L.length - 1 := wrap_id (by omega) (by omega)
    simp [hw2]
    by_cases hr : 0 ≤ a ∧ a ≤ (L.length : Int) - 1
    · refine callW_ms [.ro, .ro, .ro] ?_
      simp
      refine callX_of ((w74 _ _ _).t hr) (by simp) ?_
      simp
      obtain ⟨z, hz⟩ := get_some (l := L) (j := a.toNat) (by omega)
      simp [hr.1, hz, kindF, hr]
    · refine callW_ms [.ro, .ro, .ro] ?_
      simp
      refine callX_of ((w74 _ _ _).f hr) (by simp) ?_
      simp
      simp [kindF, hr]
theorem w52 (c r e : List (ByteArray × Int)) (s a : Int) (hc : c.length ≤ 2^40) (hr : r.length ≤ 2^40) (he : e.length ≤ 2^40) (hs : ∀ l ∈ [c, r, e], ∀ d ∈ l, d.1.size ≤ 2^40) : Contract Try.prog false 52 [.ro, .ro, .ro] [regR c r e, .i .i64 s, .i .i64 a] [.i .i64 (if RegOkP c r e then kindF (sortL c r e s) a else 0)] [] := by
  refine mk_contract [] Try.func52 (c := Try.f52.body.get!) (by kernel_rfl) k52 r52 (of_decide_eq_true rfl) fun _ => ?_
  unfold c52; unfold regR; simp
  by_cases hR : RegOkP c r e
  · refine callW_ms [.ro] ?_
    simp [regR]
    refine callX_of ((w49 c r e hc hr he hs).t hR) (by simp) ?_
    simp
    refine callW_ms [.ro, .ro, .ro] ?_
    simp
    refine callX_of (w104 c r e s a hc hr he) (by simp) ?_
    simp [hR]
  · refine callW_ms [.ro] ?_
    simp [regR]
    refine callX_of ((w49 c r e hc hr he hs).f hR) (by simp) ?_
    simp [hR]
def nameIs (x : ByteArray) (d : ByteArray × Int) : Bool := decide (d.1 = x)
theorem w145 (d : ByteArray × Int) (x : ByteArray) : Contract Try.prog false 145 [.ro, .ro] [declT d, .po false [.s x]] [.b (nameIs x d)] [] := by
  refine mk_contract [] Try.func145 (c := Try.f145.body.get!) (by kernel_rfl) k145 r145 (of_decide_eq_true rfl) fun _ => ?_
  unfold c145; unfold declT; simp [nameIs]
theorem w144 (L : List (ByteArray × Int)) (u : TV) (x : ByteArray) (hu : u = .sl true 2 [] ∧ L = [] ∨ u = .sl false 2 (L.map dT)) (hL : L.length ≤ 2^40) : Contract Try.prog false 144 [.ro, .ro] [u, .fn 145 [.po false [.s x]]] [.i .i64 (idxP (nameIs x) L)] [] := by
  refine mk_contract [] Try.func144 (c := Try.f144.body.get!) (by kernel_rfl) k144 r144 (of_decide_eq_true rfl) fun _ => ?_
  unfold c144; simp
  rcases hu with ⟨rfl, rfl⟩ | rfl
  · simp
    refine twp_for 0 (fun j s => s.t 7 = .i .i64 0 ∧ s.t 8 = .i .i64 0 ∧ s.H = lk [(1, [])]) [] (by simp) ?_ ?_
    · simp
    · rintro j s hj ⟨q7, q8, qH⟩
      rw [nf_of qH]
      simp [q7, q8]
      exact (idxP_none (by simp)).symm
  · simp
    refine twp_for L.length (fun j s => s.t 0 = .sl false 2 (L.map dT) ∧ s.t 1 = .fn 145 [.po false [.s x]] ∧ s.t 7 = .i .i64 L.length ∧ s.t 8 = .i .i64 j ∧ (∀ y ∈ L.take j, nameIs x y = false) ∧ s.H = lk [(1, [])]) [] (by simp) ?_ ?_
    · simp
    · rintro j s hj ⟨q0, q1, q7, q8, hn, qH⟩
      rw [nf_of qH]
      simp [q0, q1, q7, q8]
      refine ⟨fun hlt => ?_, fun hge => ?_⟩
      · have hw : IntKind.i64.wrap (j + 1) = j + 1 := wrap_id (by omega) (by omega)
        obtain ⟨y, hy⟩ := get_some hlt
        simp [hy, hw, q0, q1, q7, q8]
        refine ⟨by kernel_rfl, ?_⟩
        cases hb : nameIs x y with
        | true =>
          have hC := w145 y x
          rw [hb] at hC
          refine callW_ms [.ro, .ro] ?_
          simp
          refine callX_of hC (by simp [declT]) ?_
          simp [hw, q0, q1, q7, q8]
          exact (idxP_at hy hb hn).symm
        | false =>
          have hC := w145 y x
          rw [hb] at hC
          refine callW_ms [.ro, .ro] ?_
          simp
          refine callX_of hC (by simp [declT]) ?_
          simp [hw, q0, q1, q7, q8]
          refine ⟨hlt, fun a b hab => ?_⟩
          rw [take_snoc hy, List.mem_append, List.mem_singleton] at hab
          rcases hab with hab | rfl
          · exact hn _ hab
          · exact hb
      · obtain rfl : j = L.length := by omega
        rw [List.take_of_length_le (Nat.le_refl _)] at hn
        exact (idxP_none hn).symm
theorem w103 (c r e : List (ByteArray × Int)) (s : Int) (x : ByteArray) (hc : c.length ≤ 2^40) (hr : r.length ≤ 2^40) (he : e.length ≤ 2^40) : Contract Try.prog false 103 [.ro, .ro, .ro] [.po false [.sl false 2 (c.map dT), .sl false 2 (r.map dT), .sl false 2 (e.map dT)], .i .i64 s, .s x] [.i .i64 (idxP (nameIs x) (sortL c r e s))] [] := by
  refine mk_contract [] Try.func103 (c := Try.f103.body.get!) (by kernel_rfl) k103 r103 (of_decide_eq_true rfl) fun _ => ?_
  unfold c103; simp
  have hC := w124 c r e s
  have hlen := sortL_len s hc hr he
  refine callW_ms [.ro, .ro] ?_
  simp
  refine callX_of hC (by simp) ?_
  have hcs := sortR_cases c r e s
  have hI := w144 (sortL c r e s) (sortR c r e s) x hcs hlen
  rcases hcs with ⟨h1, h2⟩ | h1
  · rw [h1, h2]
    have hI := w144 [] (.sl false 2 []) x (.inr rfl) (by simp)
    simp
    refine callW_ms [.ro, .ro] ?_
    simp
    refine callX_of hI (by simp) ?_
    simp
  · rw [h1] at hI ⊢
    simp
    refine callW_ms [.ro, .ro] ?_
    simp
    refine callX_of hI (by simp) ?_
    simp
theorem w51 (c r e : List (ByteArray × Int)) (s : Int) (x : ByteArray) (hc : c.length ≤ 2^40) (hr : r.length ≤ 2^40) (he : e.length ≤ 2^40) (hs : ∀ l ∈ [c, r, e], ∀ d ∈ l, d.1.size ≤ 2^40) : Contract Try.prog false 51 [.ro, .ro, .ro] [regR c r e, .i .i64 s, .s x] [.i .i64 (if RegOkP c r e then idxP (nameIs x) (sortL c r e s) else -1)] [] := by
  refine mk_contract [] Try.func51 (c := Try.f51.body.get!) (by kernel_rfl) k51 r51 (of_decide_eq_true rfl) fun _ => ?_
  unfold c51; unfold regR; simp
  by_cases hR : RegOkP c r e
  · refine callW_ms [.ro] ?_
    simp [regR]
    refine callX_of ((w49 c r e hc hr he hs).t hR) (by simp) ?_
    simp
    refine callW_ms [.ro, .ro, .ro] ?_
    simp
    refine callX_of (w103 c r e s x hc hr he) (by simp) ?_
    simp [hR]
  · refine callW_ms [.ro] ?_
    simp [regR]
    refine callX_of ((w49 c r e hc hr he hs).f hR) (by simp) ?_
    simp [hR]
end Go.Proofs.YtloodkhdngipbaaT
