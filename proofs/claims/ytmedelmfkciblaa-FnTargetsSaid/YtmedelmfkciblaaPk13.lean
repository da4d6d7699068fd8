/- Texts of this session's own, one behind the other: Km5, Km6, Kd1, Km7, Km8, Km9, Kd2, Kv5, Ks2. -/
import Derived.Test.YtmedelmfkciblaaPk12
namespace Go.Proofs.YtmedelmfkciblaaT
set_option linter.unusedVariables false
set_option linter.unusedSimpArgs false
open Go
theorem V177d (g f : List Int) (ts : List TableP) (rs : List ValP) (e : Int × Int) (x : CellP) (hg : g.length ≤ 2^36) (hf : f.length ≤ 2^36) (hlv : ¬ liveP g f e.1 e.2) : Contract Try.prog false 177 [.own, .ro, .ro, .ro] [worldO g f ts rs, .ag (eT e), .i .i64 x.1, valV x.2] [worldO g f ts rs, .i .i64 2] [none, none, none, none] := by
 refine mk_contract [none, none, none, none] Try.func177 (c := Try.f177.body.get!) (by kernel_rfl) k177 r177 (of_decide_eq_true rfl) fun _ => ?_
 have hlive := (w215 g f e.1 e.2 (by omega) (by omega)).f hlv
 simp only [entsR, entT] at hlive
 unfold c177; unfold valV; simp
 refine callW_ms [.ro, .ro] ?_
 simp
 refine callX_of hlive (by simp) ?_
 simp
theorem V179d (g f : List Int) (ts : List TableP) (rs : List ValP) (e : Int × Int) (x : Int) (hg : g.length ≤ 2^36) (hf : f.length ≤ 2^36) (hlv : ¬ liveP g f e.1 e.2) : Contract Try.prog false 179 [.own, .ro, .ro] [worldO g f ts rs, .ag (eT e), .i .i64 x] [worldO g f ts rs, .i .i64 2] [none, none, none, none] := by
 refine mk_contract [none, none, none, none] Try.func179 (c := Try.f179.body.get!) (by kernel_rfl) k179 r179 (of_decide_eq_true rfl) fun _ => ?_
 have hlive := (w215 g f e.1 e.2 (by omega) (by omega)).f hlv
 simp only [entsR, entT] at hlive
 unfold c179; simp
 refine callW_ms [.ro, .ro] ?_
 simp
 refine callX_of hlive (by simp) ?_
 simp
theorem WkP.gl {n : Nat} {w : WorldP} (h : WkP n w) : w.1.length ≤ 2000 := h.e.2.2
theorem WkP.fl {n : Nat} {w : WorldP} (h : WkP n w) : w.2.1.length ≤ 2000 := h.e.fl
theorem P_put {n : Nat} {w : WorldP} (h : WkP n w) (hn : n ≤ 500) (e : Int × Int) (x : CellP) (hx : valOkF x.2) : ∃ (y : WorldP × Int), (WkP (n + 2) y.1 ∧ y.1.2.2.2 = w.2.2.2) ∧ Contract Try.prog false 177 [.own, .ro, .ro, .ro] [worldO w.1 w.2.1 w.2.2.1 w.2.2.2, .ag (eT e), .i .i64 x.1, valV x.2] [worldO y.1.1 y.1.2.1 y.1.2.2.1 y.1.2.2.2, .i .i64 y.2] [none, none, none, none] := by
 have h1 := h.gl
 have h2 := h.fl
 have h3 := h.r.1
 by_cases hl : liveP w.1 w.2.1 e.1 e.2
 ·obtain ⟨i, k, t, P⟩ := h.at hl
  exact ⟨((w.1, w.2.1, (putTs w.2.2.1 i k t e x).1, w.2.2.2), (putTs w.2.2.1 i k t e x).2), ⟨h.put P hx, rfl⟩, w177 w.1 w.2.1 w.2.2.1 w.2.2.2 i k t e x (by omega) (by omega) (by omega) (h.t.even (by omega)) P hl⟩
 ·exact ⟨(w, 2), ⟨h.mono (by omega), rfl⟩, V177d w.1 w.2.1 w.2.2.1 w.2.2.2 e x (by omega) (by omega) hl⟩
theorem P_drop {n : Nat} {w : WorldP} (h : WkP n w) (hn : n ≤ 500) (e : Int × Int) (x : Int) : ∃ (y : WorldP × Int), (WkP (n + 2) y.1 ∧ y.1.2.2.2 = w.2.2.2) ∧ Contract Try.prog false 179 [.own, .ro, .ro] [worldO w.1 w.2.1 w.2.2.1 w.2.2.2, .ag (eT e), .i .i64 x] [worldO y.1.1 y.1.2.1 y.1.2.2.1 y.1.2.2.2, .i .i64 y.2] [none, none, none, none] := by
 have h1 := h.gl
 have h2 := h.fl
 have h3 := h.r.1
 by_cases hl : liveP w.1 w.2.1 e.1 e.2
 ·obtain ⟨i, k, t, P⟩ := h.at hl
  exact ⟨((w.1, w.2.1, (dropTs w.2.2.1 i k t e x).1, w.2.2.2), (dropTs w.2.2.1 i k t e x).2), ⟨h.drop P, rfl⟩, w179 w.1 w.2.1 w.2.2.1 w.2.2.2 i k t e x (by omega) (by omega) (by omega) (h.t.even (by omega)) P hl⟩
 ·exact ⟨(w, 2), ⟨h.mono (by omega), rfl⟩, V179d w.1 w.2.1 w.2.2.1 w.2.2.2 e x (by omega) (by omega) hl⟩
theorem P_kill {n : Nat} {w : WorldP} (h : WkP n w) (hn : n ≤ 500) (e : Int × Int) : ∃ (y : WorldP × Int), (WkP (n + 2) y.1 ∧ y.1.2.2.2 = w.2.2.2) ∧ Contract Try.prog false 180 [.own, .ro] [worldO w.1 w.2.1 w.2.2.1 w.2.2.2, .ag (eT e)] [worldO y.1.1 y.1.2.1 y.1.2.2.1 y.1.2.2.2, .i .i64 y.2] [none, none, none, none] := by
 have h1 := h.gl
 have h2 := h.fl
 have h3 := h.r.1
 by_cases hl : liveP w.1 w.2.1 e.1 e.2
 ·obtain ⟨i, k, t, P⟩ := h.at hl
  have E := h.t.even (by omega)
  have hm := List.mem_of_getElem? P.ht
  have hil := (List.getElem?_eq_some_iff.1 P.ht).1
  have hkl := (List.getElem?_eq_some_iff.1 P.he).1
  obtain ⟨s1, s2⟩ := split_at P.ht
  have hn40 := h.t.m
  refine ⟨((giveG w.1 e.1 e.2, w.2.1 ++ [e.1], leaveAt w.2.2.1 i k, w.2.2.2), 0), ⟨(h.kill P hl).mono (by omega), rfl⟩, ?_⟩
  have hla : leaveAt w.2.2.1 i k = w.2.2.1.take i ++ leaveT t k :: w.2.2.1.drop (i + 1) := by
   have h1 := leaveAt_mid (A := w.2.2.1.take i) (B := w.2.2.1.drop (i + 1)) (t := t) (k := k)
   rw [← s1, s2] at h1
   exact h1
  have hK := w180 w.1 w.2.1 (w.2.2.1.take i) (w.2.2.1.drop (i + 1)) t w.2.2.2 e k (by omega) (by omega) (by rw [← s1]; exact ⟨by simp only; omega, by simp only; omega, ⟨by simp only; omega, E.okT⟩, by simp only; omega⟩) h.e.1 hl (by rw [← s1, s2]; exact P.hw) (by simp; omega) (by simp; omega) (E.okT t hm) (E.v t hm) hkl
  rw [← s1, ← hla] at hK
  exact hK
 ·exact ⟨(w, 2), ⟨h.mono (by omega), rfl⟩, W180d w.1 w.2.1 w.2.2.1 w.2.2.2 e (by omega) (by omega) hl⟩
theorem P_spawn {n : Nat} {w : WorldP} (h : WkP n w) (hn : n ≤ 500) (L : List CellP) (hL : L.length ≤ 8) (hv : vOkL L) : ∃ (y : WorldP × (Int × Int) × Int), (WkP (n + 2) y.1 ∧ y.1.2.2.2 = w.2.2.2) ∧ Contract Try.prog false 176 [.own, .ro] [worldO w.1 w.2.1 w.2.2.1 w.2.2.2, .sl false 5 (L.map clT)] [worldO y.1.1 y.1.2.1 y.1.2.2.1 y.1.2.2.2, .ag (eT y.2.1), .i .i64 y.2.2] [none, none, none, none] := by
 have h1 := h.gl
 have h2 := h.fl
 exact ⟨(((spawnP w.1 w.2.1 w.2.2.1 L).1.1, (spawnP w.1 w.2.1 w.2.2.1 L).1.2.1, (spawnP w.1 w.2.1 w.2.2.1 L).1.2.2, w.2.2.2), (spawnP w.1 w.2.1 w.2.2.1 L).2.1, (spawnP w.1 w.2.1 w.2.2.1 L).2.2), ⟨(h.spawn hL hv).mono (by omega), rfl⟩, w176 w.1 w.2.1 w.2.2.1 w.2.2.2 L (by omega) (by omega) h.fx (h.t.even (by omega)) (by omega)⟩
theorem new_ok (c r e : DeclsP) (hr : r.length ≤ 20) : WkP 0 (newW c r e) ∧ (newW c r e).2.2.2.length ≤ r.length := by
 have hz : vOkV (newRes r) := by
  intro x hx
  obtain ⟨d, _, rfl⟩ := List.mem_map.1 hx
  unfold zeroV
  split <;> exact ⟨fOk_z, fOk_z⟩
 have hl : ∀ x y : Int, liveP [] [] x y → hasR [] (x, y) := fun x y h => by
  have := h.2.1; simp at this
 unfold newW
 split
 ·exact ⟨⟨EntsOkP.nil (by simp) (by simp), ⟨by simp, fun t h => by cases h⟩, hl, by simp; omega, hz⟩, by simp⟩
 ·exact ⟨⟨EntsOkP.nil (by simp) (by simp), ⟨by simp, fun t h => by cases h⟩, hl, by simp, fun x h => by cases h⟩, by simp⟩
theorem WkP.res {n : Nat} {g f : List Int} {ts : List TableP} {rs rs' : List ValP} (h : WkP n (g, f, ts, rs)) (hl : rs'.length ≤ 20) (hv : vOkV rs') : WkP n (g, f, ts, rs') := ⟨h.e, h.t, h.l, hl, hv⟩
end Go.Proofs.YtmedelmfkciblaaT


namespace Go.Proofs.YtmedelmfkciblaaT
set_option linter.unusedVariables false
set_option linter.unusedSimpArgs false
open Go
def c138 : TCode := (.seq (.ops [⟨(some 4), 6, .box 3 (.t 1), none, []⟩, ⟨(some 6), 8, .box 4 (.c (.ag [(.sl true 1 []), (.sl true 1 []), (.sl true 3 []), (.sl true 4 [])])), none, []⟩])
 (.seq (.ops [⟨(some 27), 29, .load true 3 (.t 4), none, []⟩, ⟨(some 28), 30, .call 64 [((.t 27), 0)], none, []⟩, ⟨(some 7), 9, .box 4 (.c (.ag [(.sl true 1 []), (.sl true 1 []), (.sl true 3 []), (.sl true 4 [])])), none, []⟩, ⟨none, 1001003, .store 4 (.t 7) (.t 28), none, []⟩])
 (.seq (.seq (.ops [⟨(some 8), 10, .mv (.c (.i .i64 0)), none, []⟩])
 (.block 0 (.loop (.seq (.seq (.ops [⟨(some 29), 31, .mv (.t 8), none, []⟩, ⟨(some 30), 32, .faddr 3 1 (.t 7), none, []⟩, ⟨(some 31), 33, .load false 1 (.t 30), none, []⟩, ⟨(some 32), 34, .len false (.t 31), none, []⟩, ⟨(some 33), 35, .bin .lss (.t 29) (.t 32), none, []⟩])
 (.cond (.t 33)
 .skip
 (.exit 0)))
 (.seq (.block 1 (.draw [⟨(some 36), 38, .faddr 3 1 (.t 7), none, []⟩, ⟨(some 37), 39, .load false 1 (.t 36), none, []⟩, ⟨(some 38), 40, .mv (.t 8), none, []⟩, ⟨(some 39), 41, .mv (.t 0), none, []⟩, ⟨(some 40), 42, .faddr 1 1 (.t 4), none, []⟩, ⟨(some 41), 43, .load false 1 (.t 40), none, []⟩, ⟨(some 42), 44, .mv (.t 8), none, []⟩, ⟨(some 43), 45, .iaddr 2 (.t 41) (.t 42), none, []⟩, ⟨(some 44), 46, .faddr 1 1 (.t 43), none, []⟩, ⟨(some 45), 47, .load false 1 (.t 44), none, []⟩, ⟨(some 46), 48, .call 173 [((.t 39), 3), ((.t 45), 0)], none, [0, 1, 2]⟩, ⟨(some 47), 49, .iaddr 4 (.t 37) (.t 38), none, []⟩, ⟨none, 1005012, .store 4 (.t 47) (.t 46), none, []⟩]))
 (.ops [⟨(some 34), 36, .mv (.t 8), none, []⟩, ⟨(some 35), 37, .bin .add (.t 34) (.c (.i .i64 1)), none, []⟩, ⟨(some 8), 10, .mv (.t 35), none, []⟩]))))))
 (.seq (.seq (.ops [⟨(some 48), 50, .mv (.t 0), none, []⟩, ⟨(some 49), 51, .call 132 [((.t 48), 3), ((.c (.i .i64 14)), 0)], none, []⟩])
 (.cond (.t 49)
 (.seq (.ops [⟨(some 9), 11, .mv (.c (.i .i64 0)), none, []⟩])
 (.block 2 (.loop (.seq (.seq (.ops [⟨(some 50), 52, .mv (.t 9), none, []⟩, ⟨(some 51), 53, .bin .lss (.t 50) (.c (.i .i64 40)), none, []⟩, ⟨(some 52), 54, .mv (.t 51), none, []⟩, ⟨(some 53), 55, .mv (.t 9), (some (52, true)), []⟩, ⟨(some 54), 56, .faddr 0 1 (.t 4), (some (52, true)), []⟩, ⟨(some 55), 57, .load false 1 (.t 54), (some (52, true)), []⟩, ⟨(some 56), 58, .len false (.t 55), (some (52, true)), []⟩, ⟨(some 57), 59, .toInt .u64 (.t 56), (some (52, true)), []⟩, ⟨(some 58), 60, .bin .shl (.c (.i .i64 1)) (.t 57), (some (52, true)), []⟩, ⟨(some 59), 61, .bin .lss (.t 53) (.t 58), (some (52, true)), []⟩, ⟨(some 60), 62, .pick (.t 52) (.t 59) (.c (.b false)), none, []⟩])
 (.cond (.t 60)
 .skip
 (.exit 2)))
 (.seq (.block 3 (.seq (.ops [⟨(some 63), 65, .bslice 1 0 [(.i .i64 0)] [], none, []⟩, ⟨(some 10), 12, .mv (.t 63), none, []⟩])
 (.seq (.seq (.ops [⟨(some 11), 13, .mv (.c (.i .i64 0)), none, []⟩])
 (.block 4 (.loop (.seq (.seq (.ops [⟨(some 64), 66, .mv (.t 11), none, []⟩, ⟨(some 65), 67, .faddr 0 1 (.t 4), none, []⟩, ⟨(some 66), 68, .load false 1 (.t 65), none, []⟩, ⟨(some 67), 69, .len false (.t 66), none, []⟩, ⟨(some 68), 70, .bin .lss (.t 64) (.t 67), none, []⟩])
 (.cond (.t 68)
 .skip
 (.exit 4)))
 (.seq (.block 5 (.seq (.ops [⟨(some 71), 73, .mv (.t 9), none, []⟩, ⟨(some 72), 74, .mv (.t 11), none, []⟩, ⟨(some 73), 75, .toInt .u64 (.t 72), none, []⟩, ⟨(some 74), 76, .bin .shr (.t 71) (.t 73), none, []⟩, ⟨(some 75), 77, .bin .and (.t 74) (.c (.i .i64 1)), none, []⟩, ⟨(some 76), 78, .bin .eql (.t 75) (.c (.i .i64 1)), none, []⟩])
 (.cond (.t 76)
 (.ops [⟨(some 77), 79, .mv (.t 10), none, []⟩, ⟨(some 78), 80, .mv (.t 11), none, []⟩, ⟨(some 79), 81, .bslice 1 1 [(.i .i64 0)] [(0, (.t 78))], none, []⟩, ⟨(some 80), 82, .app 1 8 (.t 77) (.t 79), none, []⟩, ⟨(some 10), 12, .mv (.t 80), none, []⟩])
 .skip)))
 (.ops [⟨(some 69), 71, .mv (.t 11), none, []⟩, ⟨(some 70), 72, .bin .add (.t 69) (.c (.i .i64 1)), none, []⟩, ⟨(some 11), 13, .mv (.t 70), none, []⟩]))))))
 (.seq (.ops [⟨(some 82), 84, .load true 4 (.t 7), none, []⟩, ⟨(some 83), 85, .mv (.t 10), none, []⟩, ⟨(some 84), 86, .call 174 [((.t 82), 0), ((.t 83), 0)], none, []⟩, ⟨(some 81), 83, .mv (.t 84), none, []⟩, ⟨(some 85), 87, .ext 0 (.t 81), none, []⟩, ⟨(some 86), 88, .ext 1 (.t 81), none, []⟩, ⟨(some 12), 14, .box 4 (.c (.ag [(.sl true 1 []), (.sl true 1 []), (.sl true 3 []), (.sl true 4 [])])), none, []⟩, ⟨none, 1016007, .store 4 (.t 12) (.t 85), none, []⟩, ⟨(some 13), 15, .mv (.t 86), none, []⟩])
 (.seq (.ops [⟨(some 87), 89, .mv (.t 13), none, []⟩, ⟨(some 88), 90, .bin .geq (.t 87) (.c (.i .i64 0)), none, []⟩])
 (.cond (.t 88)
 (.ops [⟨(some 89), 91, .load true 4 (.t 12), none, []⟩, ⟨none, 1018001, .store 4 (.t 7) (.t 89), none, []⟩])
 .skip))))))
 (.ops [⟨(some 61), 63, .mv (.t 9), none, []⟩, ⟨(some 62), 64, .bin .add (.t 61) (.c (.i .i64 1)), none, []⟩, ⟨(some 9), 11, .mv (.t 62), none, []⟩]))))))
 .skip))
 (.seq (.seq (.ops [⟨(some 14), 16, .mv (.c (.i .i64 0)), none, []⟩])
 (.block 6 (.loop (.seq (.seq (.ops [⟨(some 90), 92, .mv (.t 14), none, []⟩, ⟨(some 91), 93, .mv (.t 2), none, []⟩, ⟨(some 92), 94, .bin .lss (.t 90) (.t 91), none, []⟩])
 (.cond (.t 92)
 .skip
 (.exit 6)))
 (.seq (.block 7 (.seq (.ops [⟨(some 95), 97, .mv (.t 0), none, []⟩, ⟨(some 96), 98, .call 142 [((.t 95), 3), ((.c (.i .i64 6)), 0)], none, []⟩])
 (.block 8 (.seq (.seq (.ops [⟨(some 109), 111, .bin .eql (.t 96) (.c (.i .i64 0)), none, []⟩, ⟨(some 108), 110, .mv (.t 109), none, []⟩])
 (.cond (.t 108)
 .skip
 (.seq (.ops [⟨(some 110), 112, .bin .eql (.t 96) (.c (.i .i64 1)), none, []⟩, ⟨(some 108), 110, .mv (.t 110), none, []⟩])
 (.cond (.t 108)
 .skip
 (.ops [⟨(some 111), 113, .bin .eql (.t 96) (.c (.i .i64 2)), none, []⟩, ⟨(some 108), 110, .mv (.t 111), none, []⟩])))))
 (.cond (.t 108)
 (.seq (.draw [⟨(some 113), 115, .load true 3 (.t 4), none, []⟩, ⟨(some 114), 116, .mv (.t 0), none, []⟩, ⟨(some 115), 117, .load true 3 (.t 4), none, []⟩, ⟨(some 116), 118, .call 175 [((.t 114), 3), ((.t 115), 0)], none, [0]⟩, ⟨(some 117), 119, .call 85 [((.t 113), 0), ((.t 116), 0)], none, []⟩, ⟨(some 112), 114, .mv (.t 117), none, []⟩, ⟨(some 118), 120, .ext 0 (.t 112), none, []⟩, ⟨(some 119), 121, .ext 1 (.t 112), none, []⟩, ⟨(some 15), 17, .mv (.t 118), none, []⟩, ⟨(some 16), 18, .mv (.t 119), none, []⟩])
 (.seq (.ops [⟨(some 120), 122, .mv (.t 16), none, []⟩])
 (.cond (.t 120)
 (.seq (.ops [⟨(some 122), 124, .load true 4 (.t 7), none, []⟩, ⟨(some 123), 125, .mv (.t 15), none, []⟩, ⟨(some 124), 126, .call 176 [((.t 122), 0), ((.t 123), 0)], none, []⟩, ⟨(some 121), 123, .mv (.t 124), none, []⟩, ⟨(some 125), 127, .ext 0 (.t 121), none, []⟩, ⟨(some 126), 128, .ext 1 (.t 121), none, []⟩, ⟨(some 127), 129, .ext 2 (.t 121), none, []⟩, ⟨(some 17), 19, .box 4 (.c (.ag [(.sl true 1 []), (.sl true 1 []), (.sl true 3 []), (.sl true 4 [])])), none, []⟩, ⟨(some 18), 20, .box 2 (.c (.ag [(.i .i64 0), (.i .i64 0)])), none, []⟩, ⟨none, 1031009, .store 4 (.t 17) (.t 125), none, []⟩, ⟨none, 1031010, .store 2 (.t 18) (.t 126), none, []⟩, ⟨(some 19), 21, .mv (.t 127), none, []⟩])
 (.ops [⟨(some 128), 130, .load true 4 (.t 17), none, []⟩, ⟨none, 1032001, .store 4 (.t 7) (.t 128), none, []⟩]))
 .skip)))
 (.seq (.ops [⟨(some 130), 132, .bin .eql (.t 96) (.c (.i .i64 3)), none, []⟩, ⟨(some 129), 131, .mv (.t 130), none, []⟩])
 (.cond (.t 129)
 (.seq (.ops [⟨(some 131), 133, .faddr 0 1 (.t 4), none, []⟩, ⟨(some 132), 134, .load false 1 (.t 131), none, []⟩, ⟨(some 133), 135, .len false (.t 132), none, []⟩, ⟨(some 134), 136, .bin .gtr (.t 133) (.c (.i .i64 0)), none, []⟩])
 (.cond (.t 134)
 (.seq (.ops [⟨(some 135), 137, .mv (.t 0), none, []⟩, ⟨(some 136), 138, .faddr 0 1 (.t 4), none, []⟩, ⟨(some 137), 139, .load false 1 (.t 136), none, []⟩, ⟨(some 138), 140, .len false (.t 137), none, []⟩, ⟨(some 139), 141, .call 142 [((.t 135), 3), ((.t 138), 0)], none, []⟩, ⟨(some 20), 22, .mv (.t 139), none, []⟩])
 (.seq (.draw [⟨(some 141), 143, .load true 4 (.t 7), none, []⟩, ⟨(some 142), 144, .mv (.t 0), none, []⟩, ⟨(some 143), 145, .load true 4 (.t 7), none, []⟩, ⟨(some 144), 146, .call 178 [((.t 142), 3), ((.t 143), 0)], none, [0]⟩, ⟨(some 145), 147, .mv (.t 20), none, [3]⟩, ⟨(some 146), 148, .mv (.t 0), none, [3]⟩, ⟨(some 147), 149, .faddr 0 1 (.t 4), none, [3]⟩, ⟨(some 148), 150, .load false 1 (.t 147), none, [3]⟩, ⟨(some 149), 151, .mv (.t 20), none, [3]⟩, ⟨(some 150), 152, .iaddr 2 (.t 148) (.t 149), none, [3]⟩, ⟨(some 151), 153, .faddr 1 1 (.t 150), none, [3]⟩, ⟨(some 152), 154, .load false 1 (.t 151), none, [3]⟩, ⟨(some 153), 155, .call 173 [((.t 146), 3), ((.t 152), 0)], none, [0, 4]⟩, ⟨(some 154), 156, .call 177 [((.t 141), 0), ((.t 144), 0), ((.t 145), 0), ((.t 153), 0)], none, []⟩, ⟨(some 140), 142, .mv (.t 154), none, []⟩, ⟨(some 155), 157, .ext 0 (.t 140), none, []⟩, ⟨(some 156), 158, .ext 1 (.t 140), none, []⟩, ⟨(some 21), 23, .box 4 (.c (.ag [(.sl true 1 []), (.sl true 1 []), (.sl true 3 []), (.sl true 4 [])])), none, [0, 1, 2, 3, 4, 5, 6, 7, 8, 9, 10, 11, 12, 13, 14, 15, 16]⟩, ⟨none, 1036018, .store 4 (.t 21) (.t 155), none, [1000000, 16]⟩, ⟨(some 22), 24, .mv (.t 156), none, []⟩])
 (.ops [⟨(some 157), 159, .load true 4 (.t 21), none, []⟩, ⟨none, 1037001, .store 4 (.t 7) (.t 157), none, []⟩])))
 .skip))
 (.seq (.ops [⟨(some 159), 161, .bin .eql (.t 96) (.c (.i .i64 4)), none, []⟩, ⟨(some 158), 160, .mv (.t 159), none, []⟩])
 (.cond (.t 158)
 (.seq (.ops [⟨(some 160), 162, .faddr 0 1 (.t 4), none, []⟩, ⟨(some 161), 163, .load false 1 (.t 160), none, []⟩, ⟨(some 162), 164, .len false (.t 161), none, []⟩, ⟨(some 163), 165, .bin .gtr (.t 162) (.c (.i .i64 0)), none, []⟩])
 (.cond (.t 163)
 (.seq (.draw [⟨(some 165), 167, .load true 4 (.t 7), none, []⟩, ⟨(some 166), 168, .mv (.t 0), none, []⟩, ⟨(some 167), 169, .load true 4 (.t 7), none, []⟩, ⟨(some 168), 170, .call 178 [((.t 166), 3), ((.t 167), 0)], none, [0]⟩, ⟨(some 169), 171, .mv (.t 0), none, [3]⟩, ⟨(some 170), 172, .faddr 0 1 (.t 4), none, [3]⟩, ⟨(some 171), 173, .load false 1 (.t 170), none, [3]⟩, ⟨(some 172), 174, .len false (.t 171), none, [3]⟩, ⟨(some 173), 175, .call 142 [((.t 169), 3), ((.t 172), 0)], none, [0]⟩, ⟨(some 174), 176, .call 179 [((.t 165), 0), ((.t 168), 0), ((.t 173), 0)], none, []⟩, ⟨(some 164), 166, .mv (.t 174), none, []⟩, ⟨(some 175), 177, .ext 0 (.t 164), none, []⟩, ⟨(some 176), 178, .ext 1 (.t 164), none, []⟩, ⟨(some 23), 25, .box 4 (.c (.ag [(.sl true 1 []), (.sl true 1 []), (.sl true 3 []), (.sl true 4 [])])), none, [0, 1, 2, 3, 4, 5, 6, 7, 8, 9, 10, 11, 12]⟩, ⟨none, 1040014, .store 4 (.t 23) (.t 175), none, [1000000, 12]⟩, ⟨(some 24), 26, .mv (.t 176), none, []⟩])
 (.ops [⟨(some 177), 179, .load true 4 (.t 23), none, []⟩, ⟨none, 1041001, .store 4 (.t 7) (.t 177), none, []⟩]))
 .skip))
 (.seq (.ops [⟨(some 97), 99, .mv (.t 0), none, []⟩, ⟨(some 98), 100, .call 132 [((.t 97), 3), ((.c (.i .i64 2)), 0)], none, []⟩])
 (.cond (.t 98)
 (.seq (.draw [⟨(some 100), 102, .load true 4 (.t 7), none, []⟩, ⟨(some 101), 103, .mv (.t 0), none, []⟩, ⟨(some 102), 104, .load true 4 (.t 7), none, []⟩, ⟨(some 103), 105, .call 178 [((.t 101), 3), ((.t 102), 0)], none, [0]⟩, ⟨(some 104), 106, .call 180 [((.t 100), 0), ((.t 103), 0)], none, []⟩, ⟨(some 99), 101, .mv (.t 104), none, []⟩, ⟨(some 105), 107, .ext 0 (.t 99), none, []⟩, ⟨(some 106), 108, .ext 1 (.t 99), none, []⟩, ⟨(some 25), 27, .box 4 (.c (.ag [(.sl true 1 []), (.sl true 1 []), (.sl true 3 []), (.sl true 4 [])])), none, [0, 1, 2, 3, 4, 5, 6, 7]⟩, ⟨none, 1024009, .store 4 (.t 25) (.t 105), none, [1000000, 7]⟩, ⟨(some 26), 28, .mv (.t 106), none, []⟩])
 (.ops [⟨(some 107), 109, .load true 4 (.t 25), none, []⟩, ⟨none, 1025001, .store 4 (.t 7) (.t 107), none, []⟩]))
 .skip)))))))))))
 (.ops [⟨(some 93), 95, .mv (.t 14), none, []⟩, ⟨(some 94), 96, .bin .add (.t 93) (.c (.i .i64 1)), none, []⟩, ⟨(some 14), 16, .mv (.t 94), none, []⟩]))))))
 (.seq (.ops [⟨(some 178), 180, .load true 4 (.t 7), none, []⟩, ⟨none, 1042001, .store 4 (.t 6) (.t 178), none, []⟩])
 .ret))))))
theorem k138 : compCode Try.prog Try.f138.ntmps Try.f138.body.get! = some c138 := by kernel_rfl
theorem r138 : resTmps Try.prog Try.f138.results.toList = some [.cell 6 true 4] := by kernel_rfl
def fstW : TCode → TCode
 | .seq a _ => a
 | c => c
def sndW : TCode → TCode
 | .seq _ b => b
 | c => c
def restW : TCode := sndW (sndW (sndW (sndW c138)))
set_option maxRecDepth 100000 in
theorem c_restW : c138 = .seq (fstW c138) (.seq (fstW (sndW c138)) (.seq (fstW (sndW (sndW c138))) (.seq (fstW (sndW (sndW (sndW c138)))) restW))) := rfl
def WorldD (bs : List Int) (x : Nat × Int × WorldP) : Prop := x.1 ≤ bs.length ∧ WkP 400 x.2.2
set_option maxRecDepth 100000 in
set_option maxHeartbeats 8000000 in
theorem tailW (bs : List Int) (i0 : Nat) (h0 : Int) (n : Nat) (c r d : DcP) (w0 : WorldP) (hb : bs.length ≤ 2^40) (hi0 : i0 ≤ bs.length) (hn : n ≤ 100) (hc : c.length ≤ 20) (hr : r.length ≤ 20) (hd : d.length ≤ 20) (hW0 : WkP 0 w0) (s : St) (q0 : s.t 0 = .pt [(1, 0)] 0 0) (q2 : s.t 2 = .i .i64 n) (q4 : s.t 4 = .pt [(6, 0)] 0 0) (q6 : s.t 6 = .pt [(8, 0)] 0 0) (q7 : s.t 7 = .pt [(9, 0)] 0 0) (o1 : s.org [(6, 0), (0, 0)] = some 1) (o2 : s.org [(6, 0), (0, 1)] = some 2) (o3 : s.org [(6, 0), (0, 2)] = some 3)
  (qH : s.H = lk [(1, [.po true [.sl false 1 (bs.map uT), .i .i64 i0, .i .i64 h0], .junk, .junk, .junk]), (6, [.po true [.sl true 2 (c.map dT), .sl true 2 (r.map dT), .sl true 2 (d.map dT)]]), (8, [.po true [.sl true 1 [], .sl true 1 [], .sl true 3 [], .sl true 4 []]]), (9, [.po true [.sl true 1 (w0.1.map iT), .sl true 1 (w0.2.1.map iT), .sl true 3 (w0.2.2.1.map tbO), .sl true 4 (w0.2.2.2.map vT)]])]) :
  twp Try.prog restW (exK (fun (x : Nat × Int × WorldP) => endW true [worldO x.2.2.1 x.2.2.2.1 x.2.2.2.2.1 x.2.2.2.2.2] [some (curT bs x.1 x.2.1), some (.sl true 2 (c.map dT)), some (.sl true 2 (r.map dT)), some (.sl true 2 (d.map dT))] [some [(1, 0)], some [(6, 0), (0, 0)], some [(6, 0), (0, 1)], some [(6, 0), (0, 2)]] [.cell 6 true 4]) (WorldD bs)) s := by
 unfold restW c138
 simp only [sndW]
 rw [nf_of qH]
 simp [q0, q2, q4, q6, q7, o1, o2, o3]
 refine twp_for n (fun j s => ∃ (i : Nat), i ≤ bs.length ∧ ∃ (h : Int) (w : WorldP), WkP (2 * j) w ∧ s.t 0 = .pt [(1, 0)] 0 0 ∧ s.t 2 = .i .i64 n ∧ s.t 4 = .pt [(6, 0)] 0 0 ∧ s.t 6 = .pt [(8, 0)] 0 0 ∧ s.t 7 = .pt [(9, 0)] 0 0 ∧ s.t 14 = .i .i64 j ∧ s.org [(6, 0), (0, 0)] = some 1 ∧ s.org [(6, 0), (0, 1)] = some 2 ∧ s.org [(6, 0), (0, 2)] = some 3 ∧ s.H = lk [(1, [.po true [.sl false 1 (bs.map uT), .i .i64 i, .i .i64 h], .junk, .junk, .junk]), (6, [.po true [.sl true 2 (c.map dT), .sl true 2 (r.map dT), .sl true 2 (d.map dT)]]), (8, [.po true [.sl true 1 [], .sl true 1 [], .sl true 3 [], .sl true 4 []]]), (9, [.po true [.sl true 1 (w.1.map iT), .sl true 1 (w.2.1.map iT), .sl true 3 (w.2.2.1.map tbO), .sl true 4 (w.2.2.2.map vT)]])]) [19, 20, 23, 25, 27, 106, 118, 119, 126, 156, 176] (by simp) ?_ ?_
 ·refine ⟨i0, hi0, h0, w0, hW0, ?_⟩
  simp [q0, q2, q4, q6, q7, o1, o2, o3]
 ·rintro j s hj ⟨i, hi, h, w, hW, q0, q2, q4, q6, q7, q14, o1, o2, o3, qH⟩
  rw [nf_of qH]
  have hgl := hW.gl
  have hfl := hW.fl
  have hw : IntKind.i64.wrap ((j : Int) + 1) = j + 1 := wrap_id (by omega) (by omega)
  cases hb9 : decide (j < n)
  ·simp [q0, q2, q4, q6, q7, q14, o1, o2, o3, hb9]
   refine exK_of (i, h, w) ⟨hi, hW.mono (by omega)⟩ ?_
   simp [curT, worldO, q6, o1, o2, o3]
  ·have hlt := of_decide_eq_true hb9
   simp [q0, q2, q4, q6, q7, q14, o1, o2, o3, hb9]
   obtain ⟨⟨i1, h1, y1⟩, ⟨a1, b1, c1⟩, hC1⟩ := w142 bs i h 6 hb hi
   simp only at a1 b1 c1 hC1
   unfold curT at hC1
   refine callW_ms [.own, .ro] ?_
   simp [q0, q2, q4, q6, q7, q14, o1, o2, o3]
   refine callX_of hC1 (by simp) ?_
   have c1' := c1 (by omega)
   rcases (by omega : y1 = 0 ∨ y1 = 1 ∨ y1 = 2 ∨ y1 = 3 ∨ y1 = 4 ∨ y1 = 5) with rfl | rfl | rfl | rfl | rfl | rfl
   ·simp [q0, q2, q4, q6, q7, q14, o1, o2, o3]
    obtain ⟨⟨i2, h2, L⟩, ⟨a2, hL8, hLv⟩, hC2⟩ := w175 bs i1 h1 c r d hb a1 hc
    simp only at a2 hL8 hLv hC2
    unfold curT regO at hC2
    refine callW_ms [.own, .own] ?_
    simp [q0, q2, q4, q6, q7, q14, o1, o2, o3]
    refine callX_of hC2 (by simp) ?_
    simp [q0, q2, q4, q6, q7, q14, o1, o2, o3]
    refine ⟨by decide, ?_⟩
    have hS := w85 c r d L (by omega) (by omega) hLv
    have hSl := l4S_len c L
    have hSv := l4S_ok (c := c) hLv
    unfold regR at hS
    generalize l4S c L = S at *
    obtain ⟨S, ok⟩ := S
    simp only at hS hSl hSv
    refine callW_ms [.ro, .ro] ?_
    simp
    refine callX_of hS (by simp) ?_
    cases ok with
    | false =>
     simp [q0, q2, q4, q6, q7, q14, o1, o2, o3, hw, forK]
     refine ⟨hlt, i2, a2, h2, w.1, w.2.1, w.2.2.1, w.2.2.2, (hW.mono (by omega)), ?_⟩
     simp [q0, q2, q4, q6, q7, q14, o1, o2, o3, hw]
    | true =>
     simp [q0, q2, q4, q6, q7, q14, o1, o2, o3]
     obtain ⟨⟨w2, e2, k2⟩, ⟨hW2, _⟩, hC3⟩ := P_spawn hW (by omega) S (by omega) hSv
     simp only at hW2 hC3
     unfold worldO at hC3
     refine callW_ms [.own, .ro] ?_
     simp
     refine callX_of hC3 (by simp) ?_
     simp [q0, q2, q4, q6, q7, q14, o1, o2, o3, hw, forK]
     refine ⟨hlt, i2, a2, h2, w2.1, w2.2.1, w2.2.2.1, w2.2.2.2, (hW2.mono (by omega)), ?_⟩
     simp [q0, q2, q4, q6, q7, q14, o1, o2, o3, hw]
   ·simp [q0, q2, q4, q6, q7, q14, o1, o2, o3]
    obtain ⟨⟨i2, h2, L⟩, ⟨a2, hL8, hLv⟩, hC2⟩ := w175 bs i1 h1 c r d hb a1 hc
    simp only at a2 hL8 hLv hC2
    unfold curT regO at hC2
    refine callW_ms [.own, .own] ?_
    simp [q0, q2, q4, q6, q7, q14, o1, o2, o3]
    refine callX_of hC2 (by simp) ?_
    simp [q0, q2, q4, q6, q7, q14, o1, o2, o3]
    refine ⟨by decide, ?_⟩
    have hS := w85 c r d L (by omega) (by omega) hLv
    have hSl := l4S_len c L
    have hSv := l4S_ok (c := c) hLv
    unfold regR at hS
    generalize l4S c L = S at *
    obtain ⟨S, ok⟩ := S
    simp only at hS hSl hSv
    refine callW_ms [.ro, .ro] ?_
    simp
    refine callX_of hS (by simp) ?_
    cases ok with
    | false =>
     simp [q0, q2, q4, q6, q7, q14, o1, o2, o3, hw, forK]
     refine ⟨hlt, i2, a2, h2, w.1, w.2.1, w.2.2.1, w.2.2.2, (hW.mono (by omega)), ?_⟩
     simp [q0, q2, q4, q6, q7, q14, o1, o2, o3, hw]
    | true =>
     simp [q0, q2, q4, q6, q7, q14, o1, o2, o3]
     obtain ⟨⟨w2, e2, k2⟩, ⟨hW2, _⟩, hC3⟩ := P_spawn hW (by omega) S (by omega) hSv
     simp only at hW2 hC3
     unfold worldO at hC3
     refine callW_ms [.own, .ro] ?_
     simp
     refine callX_of hC3 (by simp) ?_
     simp [q0, q2, q4, q6, q7, q14, o1, o2, o3, hw, forK]
     refine ⟨hlt, i2, a2, h2, w2.1, w2.2.1, w2.2.2.1, w2.2.2.2, (hW2.mono (by omega)), ?_⟩
     simp [q0, q2, q4, q6, q7, q14, o1, o2, o3, hw]
   ·simp [q0, q2, q4, q6, q7, q14, o1, o2, o3]
    obtain ⟨⟨i2, h2, L⟩, ⟨a2, hL8, hLv⟩, hC2⟩ := w175 bs i1 h1 c r d hb a1 hc
    simp only at a2 hL8 hLv hC2
    unfold curT regO at hC2
    refine callW_ms [.own, .own] ?_
    simp [q0, q2, q4, q6, q7, q14, o1, o2, o3]
    refine callX_of hC2 (by simp) ?_
    simp [q0, q2, q4, q6, q7, q14, o1, o2, o3]
    refine ⟨by decide, ?_⟩
    have hS := w85 c r d L (by omega) (by omega) hLv
    have hSl := l4S_len c L
    have hSv := l4S_ok (c := c) hLv
    unfold regR at hS
    generalize l4S c L = S at *
    obtain ⟨S, ok⟩ := S
    simp only at hS hSl hSv
    refine callW_ms [.ro, .ro] ?_
    simp
    refine callX_of hS (by simp) ?_
    cases ok with
    | false =>
     simp [q0, q2, q4, q6, q7, q14, o1, o2, o3, hw, forK]
     refine ⟨hlt, i2, a2, h2, w.1, w.2.1, w.2.2.1, w.2.2.2, (hW.mono (by omega)), ?_⟩
     simp [q0, q2, q4, q6, q7, q14, o1, o2, o3, hw]
    | true =>
     simp [q0, q2, q4, q6, q7, q14, o1, o2, o3]
     obtain ⟨⟨w2, e2, k2⟩, ⟨hW2, _⟩, hC3⟩ := P_spawn hW (by omega) S (by omega) hSv
     simp only at hW2 hC3
     unfold worldO at hC3
     refine callW_ms [.own, .ro] ?_
     simp
     refine callX_of hC3 (by simp) ?_
     simp [q0, q2, q4, q6, q7, q14, o1, o2, o3, hw, forK]
     refine ⟨hlt, i2, a2, h2, w2.1, w2.2.1, w2.2.2.1, w2.2.2.2, (hW2.mono (by omega)), ?_⟩
     simp [q0, q2, q4, q6, q7, q14, o1, o2, o3, hw]
   ·simp [q0, q2, q4, q6, q7, q14, o1, o2, o3]
    refine ⟨fun hpos => ?_, fun hneg => ?_⟩
    rotate_left
    ·simp [q0, q2, q4, q6, q7, q14, o1, o2, o3, hw, forK]
     refine ⟨hlt, i1, a1, h1, w.1, w.2.1, w.2.2.1, w.2.2.2, (hW.mono (by omega)), ?_⟩
     simp [q0, q2, q4, q6, q7, q14, o1, o2, o3, hw]
    ·obtain ⟨⟨i2, h2, k⟩, ⟨a2, b2, c2⟩, hC2⟩ := w142 bs i1 h1 (c.length : Int) hb a1
     simp only at a2 b2 c2 hC2
     unfold curT at hC2
     refine callW_ms [.own, .ro] ?_
     simp [q0, q2, q4, q6, q7, q14, o1, o2, o3]
     refine callX_of hC2 (by simp) ?_
     simp [q0, q2, q4, q6, q7, q14, o1, o2, o3]
     have c3 := c2 (by omega)
     obtain ⟨dc, hdc⟩ : ∃ dc, c[k.toNat]? = some dc := get_some (by omega)
     obtain ⟨⟨i3, h3, e3⟩, a3, hC3⟩ := w178 bs i2 h2 w.1 w.2.1 w.2.2.1 w.2.2.2 hb a2 (by omega) (by omega)
     simp only at a3 hC3
     unfold curT worldO at hC3
     refine callW_ms [.own, .own] ?_
     simp [q0, q2, q4, q6, q7, q14, o1, o2, o3]
     refine callX_of hC3 (by simp) ?_
     simp [q0, q2, q4, q6, q7, q14, o1, o2, o3, hdc, b2]
     refine ⟨by decide, ?_⟩
     refine ⟨by omega, ?_⟩
     obtain ⟨⟨i4, h4, v4⟩, ⟨a4, b4, c4⟩, hC4⟩ := w173 bs i3 h3 dc.2 hb a3
     simp only at a4 b4 hC4
     unfold curT valV at hC4
     refine callW_ms [.own, .ro] ?_
     simp [q0, q2, q4, q6, q7, q14, o1, o2, o3]
     refine callX_of hC4 (by simp) ?_
     simp [q0, q2, q4, q6, q7, q14, o1, o2, o3, hdc, b2]
     obtain ⟨⟨w2, k2⟩, ⟨hW2, _⟩, hC5⟩ := P_put hW (by omega) e3 (k, v4) b4
     simp only at hW2 hC5
     unfold worldO valV at hC5
     refine callW_ms [.own, .ro, .ro, .ro] ?_
     simp
     refine callX_of hC5 (by simp) ?_
     simp [q0, q2, q4, q6, q7, q14, o1, o2, o3, hw, forK]
     refine ⟨hlt, i4, a4, h4, w2.1, w2.2.1, w2.2.2.1, w2.2.2.2, (hW2.mono (by omega)), ?_⟩
     simp [q0, q2, q4, q6, q7, q14, o1, o2, o3, hw]
   ·simp [q0, q2, q4, q6, q7, q14, o1, o2, o3]
    refine ⟨fun hpos => ?_, fun hneg => ?_⟩
    rotate_left
    ·simp [q0, q2, q4, q6, q7, q14, o1, o2, o3, hw, forK]
     refine ⟨hlt, i1, a1, h1, w.1, w.2.1, w.2.2.1, w.2.2.2, (hW.mono (by omega)), ?_⟩
     simp [q0, q2, q4, q6, q7, q14, o1, o2, o3, hw]
    ·obtain ⟨⟨i3, h3, e3⟩, a3, hC3⟩ := w178 bs i1 h1 w.1 w.2.1 w.2.2.1 w.2.2.2 hb a1 (by omega) (by omega)
     simp only at a3 hC3
     unfold curT worldO at hC3
     refine callW_ms [.own, .own] ?_
     simp [q0, q2, q4, q6, q7, q14, o1, o2, o3]
     refine callX_of hC3 (by simp) ?_
     simp [q0, q2, q4, q6, q7, q14, o1, o2, o3]
     refine ⟨by decide, ?_⟩
     obtain ⟨⟨i2, h2, k⟩, ⟨a2, b2, c2⟩, hC2⟩ := w142 bs i3 h3 (c.length : Int) hb a3
     simp only at a2 b2 c2 hC2
     unfold curT at hC2
     refine callW_ms [.own, .ro] ?_
     simp [q0, q2, q4, q6, q7, q14, o1, o2, o3]
     refine callX_of hC2 (by simp) ?_
     simp [q0, q2, q4, q6, q7, q14, o1, o2, o3]
     obtain ⟨⟨w2, k2⟩, ⟨hW2, _⟩, hC5⟩ := P_drop hW (by omega) e3 k
     simp only at hW2 hC5
     unfold worldO at hC5
     refine callW_ms [.own, .ro, .ro] ?_
     simp
     refine callX_of hC5 (by simp) ?_
     simp [q0, q2, q4, q6, q7, q14, o1, o2, o3, hw, forK]
     refine ⟨hlt, i2, a2, h2, w2.1, w2.2.1, w2.2.2.1, w2.2.2.2, (hW2.mono (by omega)), ?_⟩
     simp [q0, q2, q4, q6, q7, q14, o1, o2, o3, hw]
   ·simp [q0, q2, q4, q6, q7, q14, o1, o2, o3]
    obtain ⟨⟨i2, h2, y2⟩, a2, hC2⟩ := w132 bs i1 h1 2 hb a1
    simp only at a2 hC2
    unfold curT at hC2
    refine callW_ms [.own, .ro] ?_
    simp [q0, q2, q4, q6, q7, q14, o1, o2, o3]
    refine callX_of hC2 (by simp) ?_
    cases y2 with
    | false =>
     simp [q0, q2, q4, q6, q7, q14, o1, o2, o3, hw, forK]
     refine ⟨hlt, i2, a2, h2, w.1, w.2.1, w.2.2.1, w.2.2.2, (hW.mono (by omega)), ?_⟩
     simp [q0, q2, q4, q6, q7, q14, o1, o2, o3, hw]
    | true =>
     simp [q0, q2, q4, q6, q7, q14, o1, o2, o3]
     obtain ⟨⟨i3, h3, e3⟩, a3, hC3⟩ := w178 bs i2 h2 w.1 w.2.1 w.2.2.1 w.2.2.2 hb a2 (by omega) (by omega)
     simp only at a3 hC3
     unfold curT worldO at hC3
     refine callW_ms [.own, .own] ?_
     simp [q0, q2, q4, q6, q7, q14, o1, o2, o3]
     refine callX_of hC3 (by simp) ?_
     simp [q0, q2, q4, q6, q7, q14, o1, o2, o3]
     refine ⟨by decide, ?_⟩
     obtain ⟨⟨w2, k2⟩, ⟨hW2, _⟩, hC5⟩ := P_kill hW (by omega) e3
     simp only at hW2 hC5
     unfold worldO at hC5
     refine callW_ms [.own, .ro] ?_
     simp
     refine callX_of hC5 (by simp) ?_
     simp [q0, q2, q4, q6, q7, q14, o1, o2, o3, hw, forK]
     refine ⟨hlt, i3, a3, h3, w2.1, w2.2.1, w2.2.2.1, w2.2.2.2, (hW2.mono (by omega)), ?_⟩
     simp [q0, q2, q4, q6, q7, q14, o1, o2, o3, hw]
end Go.Proofs.YtmedelmfkciblaaT


namespace Go.Proofs.YtmedelmfkciblaaT
set_option linter.unusedVariables false
set_option linter.unusedSimpArgs false
open Go
def c143 : TCode := (.seq (.ops [⟨(some 4), 6, .box 3 (.t 1), none, []⟩, ⟨(some 5), 7, .box 4 (.t 2), none, []⟩, ⟨(some 6), 8, .box 9 (.c (.ag [(.i .i64 0), (.i .i64 0), (.i .i64 0), (.i .i64 0), (.i .i64 0), (.i .i64 0), (.f 0), (.f 0), (.sl true 5 [])])), none, []⟩])
 (.seq (.draw [⟨(some 12), 14, .mv (.t 0), none, []⟩, ⟨(some 13), 15, .call 142 [((.t 12), 3), ((.c (.i .i64 4)), 0)], none, []⟩, ⟨(some 14), 16, .bin .add (.c (.i .i64 1)) (.t 13), none, []⟩, ⟨(some 15), 17, .mv (.t 0), none, [1]⟩, ⟨(some 16), 18, .load true 4 (.t 5), none, [1]⟩, ⟨(some 17), 19, .call 178 [((.t 15), 3), ((.t 16), 0)], none, [2]⟩, ⟨(some 18), 20, .build [(.i .i64 0), (.i .i64 0), (.i .i64 0), (.i .i64 0), (.i .i64 0), (.i .i64 0), (.f 0), (.f 0), (.sl true 5 [])] [(0, 1, (.t 14)), (1, 2, (.t 17))], none, []⟩, ⟨(some 7), 9, .box 9 (.c (.ag [(.i .i64 0), (.i .i64 0), (.i .i64 0), (.i .i64 0), (.i .i64 0), (.i .i64 0), (.f 0), (.f 0), (.sl true 5 [])])), none, [0, 1, 2, 3, 4, 5, 6]⟩, ⟨none, 1001008, .store 9 (.t 7) (.t 18), none, []⟩])
 (.seq (.seq (.ops [⟨(some 19), 21, .mv (.t 0), none, []⟩, ⟨(some 20), 22, .call 132 [((.t 19), 3), ((.c (.i .i64 4)), 0)], none, []⟩])
 (.cond (.t 20)
 (.ops [⟨(some 21), 23, .mv (.t 0), none, []⟩, ⟨(some 22), 24, .call 142 [((.t 21), 3), ((.c (.i .i64 3)), 0)], none, []⟩, ⟨(some 23), 25, .bin .sub (.c (.i .i64 (-1))) (.t 22), none, []⟩, ⟨(some 24), 26, .build [(.i .i64 0), (.i .i64 0)] [(0, 1, (.t 23))], none, []⟩, ⟨(some 25), 27, .faddr 1 2 (.t 7), none, []⟩, ⟨none, 1003005, .store 2 (.t 25) (.t 24), none, []⟩])
 .skip))
 (.seq (.seq (.ops [⟨(some 26), 28, .faddr 0 1 (.t 7), none, []⟩, ⟨(some 27), 29, .load false 1 (.t 26), none, []⟩])
 (.block 0 (.seq (.ops [⟨(some 29), 31, .bin .eql (.t 27) (.c (.i .i64 1)), none, []⟩, ⟨(some 28), 30, .mv (.t 29), none, []⟩])
 (.cond (.t 28)
 (.seq (.ops [⟨(some 30), 32, .build [(.i .i64 0), (.i .i64 0)] [], none, []⟩, ⟨(some 31), 33, .faddr 1 2 (.t 7), none, []⟩, ⟨none, 1006002, .store 2 (.t 31) (.t 30), none, []⟩])
 (.ops [⟨(some 32), 34, .mv (.t 0), none, []⟩, ⟨(some 33), 35, .load true 3 (.t 4), none, []⟩, ⟨(some 34), 36, .call 175 [((.t 32), 3), ((.t 33), 0)], none, []⟩, ⟨(some 35), 37, .faddr 8 1 (.t 7), none, []⟩, ⟨none, 1007004, .store 1 (.t 35) (.t 34), none, []⟩]))
 (.seq (.ops [⟨(some 37), 39, .bin .eql (.t 27) (.c (.i .i64 3)), none, []⟩, ⟨(some 36), 38, .mv (.t 37), none, []⟩])
 (.cond (.t 36)
 (.seq (.ops [⟨(some 39), 41, .mv (.t 0), none, []⟩, ⟨(some 40), 42, .load true 3 (.t 4), none, []⟩, ⟨(some 41), 43, .call 184 [((.t 39), 3), ((.t 40), 0)], none, []⟩, ⟨(some 38), 40, .mv (.t 41), none, []⟩, ⟨(some 42), 44, .ext 0 (.t 38), none, []⟩, ⟨(some 43), 45, .ext 1 (.t 38), none, []⟩, ⟨(some 9), 11, .box 4 (.c (.ag [(.i .i64 0), (.i .i64 0), (.f 0), (.f 0)])), none, []⟩, ⟨(some 8), 10, .mv (.t 42), none, []⟩, ⟨none, 1009008, .store 4 (.t 9) (.t 43), none, []⟩])
 (.seq (.ops [⟨(some 44), 46, .mv (.t 8), none, []⟩, ⟨(some 45), 47, .faddr 3 1 (.t 7), none, []⟩, ⟨none, 1010002, .store 1 (.t 45) (.t 44), none, []⟩])
 (.ops [⟨(some 46), 48, .load true 4 (.t 9), none, []⟩, ⟨(some 47), 49, .faddr 4 4 (.t 7), none, []⟩, ⟨none, 1011002, .store 4 (.t 47) (.t 46), none, []⟩])))
 (.seq (.ops [⟨(some 49), 51, .bin .eql (.t 27) (.c (.i .i64 4)), none, []⟩, ⟨(some 48), 50, .mv (.t 49), none, []⟩])
 (.cond (.t 48)
 (.seq (.ops [⟨(some 51), 53, .mv (.t 0), none, []⟩, ⟨(some 52), 54, .load true 3 (.t 4), none, []⟩, ⟨(some 53), 55, .call 184 [((.t 51), 3), ((.t 52), 0)], none, []⟩, ⟨(some 50), 52, .mv (.t 53), none, []⟩, ⟨(some 54), 56, .ext 0 (.t 50), none, []⟩, ⟨(some 55), 57, .ext 1 (.t 50), none, []⟩, ⟨(some 11), 13, .box 4 (.c (.ag [(.i .i64 0), (.i .i64 0), (.f 0), (.f 0)])), none, []⟩, ⟨(some 10), 12, .mv (.t 54), none, []⟩, ⟨none, 1013008, .store 4 (.t 11) (.t 55), none, []⟩])
 (.ops [⟨(some 56), 58, .mv (.t 10), none, []⟩, ⟨(some 57), 59, .faddr 3 1 (.t 7), none, []⟩, ⟨none, 1014002, .store 1 (.t 57) (.t 56), none, []⟩]))
 .skip))))))))
 (.seq (.seq (.ops [⟨(some 58), 60, .mv (.t 0), none, []⟩, ⟨(some 59), 61, .call 132 [((.t 58), 3), ((.c (.i .i64 14)), 0)], none, []⟩])
 (.cond (.t 59)
 (.ops [⟨(some 60), 62, .mv (.t 0), none, []⟩, ⟨(some 61), 63, .call 142 [((.t 60), 3), ((.c (.i .i64 7)), 0)], none, []⟩, ⟨(some 62), 64, .bin .sub (.t 61) (.c (.i .i64 1)), none, []⟩, ⟨(some 63), 65, .faddr 0 1 (.t 7), none, []⟩, ⟨none, 1016004, .store 1 (.t 63) (.t 62), none, []⟩])
 .skip))
 (.seq (.ops [⟨(some 64), 66, .load true 9 (.t 7), none, []⟩, ⟨none, 1017001, .store 9 (.t 6) (.t 64), none, []⟩])
 .ret))))))
theorem k143 : compCode Try.prog Try.f143.ntmps Try.f143.body.get! = some c143 := by kernel_rfl
theorem r143 : resTmps Try.prog Try.f143.results.toList = some [.cell 6 true 9] := by kernel_rfl
def restC : TCode := sndW (sndW (sndW c143))
set_option maxRecDepth 100000 in
theorem c_restC : c143 = .seq (fstW c143) (.seq (fstW (sndW c143)) (.seq (fstW (sndW (sndW c143))) restC)) := rfl
def CmdD (bs : List Int) (x : Nat × Int × CmdP) : Prop := x.1 ≤ bs.length ∧ x.2.2.2.2.2.2.length ≤ 8
set_option maxRecDepth 100000 in
set_option maxHeartbeats 4000000 in
theorem tailC (bs : List Int) (i0 : Nat) (h0 : Int) (c r d : DcP) (g f : List Int) (ts : List TableP) (rs : List ValP) (k : Int) (e : Int × Int) (hb : bs.length ≤ 2^40) (hi0 : i0 ≤ bs.length) (hc : c.length ≤ 20) (hk : 1 ≤ k ∧ k ≤ 4) (s : St) (q0 : s.t 0 = .pt [(1, 0)] 0 0) (q4 : s.t 4 = .pt [(6, 0)] 0 0) (q5 : s.t 5 = .pt [(7, 0)] 0 0) (q6 : s.t 6 = .pt [(8, 0)] 0 0) (q7 : s.t 7 = .pt [(9, 0)] 0 0) (o1 : s.org [(6, 0), (0, 0)] = some 1) (o2 : s.org [(6, 0), (0, 1)] = some 2) (o3 : s.org [(6, 0), (0, 2)] = some 3) (o4 : s.org [(7, 0), (0, 0)] = some 4) (o5 : s.org [(7, 0), (0, 1)] = some 5) (o6 : s.org [(7, 0), (0, 2)] = some 6) (o7 : s.org [(7, 0), (0, 3)] = some 7)
  (qH : s.H = lk [(1, [.po true [.sl false 1 (bs.map uT), .i .i64 i0, .i .i64 h0], .junk, .junk, .junk, .junk, .junk, .junk, .junk]), (6, [.po true [.sl true 2 (c.map dT), .sl true 2 (r.map dT), .sl true 2 (d.map dT)]]), (7, [.po true [.sl true 1 (g.map iT), .sl true 1 (f.map iT), .sl true 3 (ts.map tbO), .sl true 4 (rs.map vT)]]), (8, [.po true [.i .i64 0, .i .i64 0, .i .i64 0, .i .i64 0, .i .i64 0, .i .i64 0, .f 0, .f 0, .sl true 5 []]]), (9, [.po true [.i .i64 k, .i .i64 e.1, .i .i64 e.2, .i .i64 0, .i .i64 0, .i .i64 0, .f 0, .f 0, .sl true 5 []]])]) : twp Try.prog restC (exK (fun (x : Nat × Int × CmdP) => endW true [cmdO x.2.2] [some (curT bs x.1 x.2.1), some (.sl true 2 (c.map dT)), some (.sl true 2 (r.map dT)), some (.sl true 2 (d.map dT)), some (.sl true 1 (g.map iT)), some (.sl true 1 (f.map iT)), some (.sl true 3 (ts.map tbO)), some (.sl true 4 (rs.map vT))] [some [(1, 0)], some [(6, 0), (0, 0)], some [(6, 0), (0, 1)], some [(6, 0), (0, 2)], some [(7, 0), (0, 0)], some [(7, 0), (0, 1)], some [(7, 0), (0, 2)], some [(7, 0), (0, 3)]] [.cell 6 true 9]) (CmdD bs)) s := by
 unfold restC c143
 simp only [sndW]
 rw [nf_of qH]
 simp [q0, q4, q5, q6, q7, o1, o2, o3, o4, o5, o6, o7]
 rcases (by omega : k = 1 ∨ k = 2 ∨ k = 3 ∨ k = 4) with rfl | rfl | rfl | rfl
 ·simp [q0, q4, q5, q6, q7, o1, o2, o3, o4, o5, o6, o7]
  obtain ⟨⟨i2, h2, L⟩, ⟨a2, hL8, hLv⟩, hC2⟩ := w175 bs i0 h0 c r d hb hi0 hc
  simp only at a2 hL8 hLv hC2
  unfold curT regO at hC2
  refine callW_ms [.own, .own] ?_
  simp [q0, q4, q5, q6, q7, o1, o2, o3, o4, o5, o6, o7]
  refine callX_of hC2 (by simp) ?_
  simp [q0, q4, q5, q6, q7, o1, o2, o3, o4, o5, o6, o7]
  obtain ⟨⟨i5, h5, y5⟩, a5, hC5⟩ := w132 bs i2 h2 14 hb a2
  simp only at a5 hC5
  unfold curT at hC5
  refine callW_ms [.own, .ro] ?_
  simp [q0, q4, q5, q6, q7, o1, o2, o3, o4, o5, o6, o7]
  refine callX_of hC5 (by simp) ?_
  cases y5 with
  | false =>
   simp [q0, q4, q5, q6, q7, o1, o2, o3, o4, o5, o6, o7]
   refine exK_of (i5, h5, 1, (0, 0), 0, (0, 0, 0, 0), L) ⟨a5, hL8⟩ ?_
   simp [q0, q4, q5, q6, q7, o1, o2, o3, o4, o5, o6, o7, curT]
  | true =>
   simp [q0, q4, q5, q6, q7, o1, o2, o3, o4, o5, o6, o7]
   obtain ⟨⟨i6, h6, k6⟩, ⟨a6, b6, c6'⟩, hC6⟩ := w142 bs i5 h5 7 hb a5
   simp only at a6 b6 c6' hC6
   unfold curT at hC6
   refine callW_ms [.own, .ro] ?_
   simp [q0, q4, q5, q6, q7, o1, o2, o3, o4, o5, o6, o7]
   refine callX_of hC6 (by simp) ?_
   simp [q0, q4, q5, q6, q7, o1, o2, o3, o4, o5, o6, o7]
   refine exK_of (i6, h6, IntKind.i64.wrap (k6 - 1), (0, 0), 0, (0, 0, 0, 0), L) ⟨a6, hL8⟩ ?_
   simp [q0, q4, q5, q6, q7, o1, o2, o3, o4, o5, o6, o7, curT]
 ·simp [q0, q4, q5, q6, q7, o1, o2, o3, o4, o5, o6, o7]
  obtain ⟨⟨i5, h5, y5⟩, a5, hC5⟩ := w132 bs i0 h0 14 hb hi0
  simp only at a5 hC5
  unfold curT at hC5
  refine callW_ms [.own, .ro] ?_
  simp [q0, q4, q5, q6, q7, o1, o2, o3, o4, o5, o6, o7]
  refine callX_of hC5 (by simp) ?_
  cases y5 with
  | false =>
   simp [q0, q4, q5, q6, q7, o1, o2, o3, o4, o5, o6, o7]
   refine exK_of (i5, h5, 2, e, 0, (0, 0, 0, 0), []) ⟨a5, (by simp)⟩ ?_
   simp [q0, q4, q5, q6, q7, o1, o2, o3, o4, o5, o6, o7, curT]
  | true =>
   simp [q0, q4, q5, q6, q7, o1, o2, o3, o4, o5, o6, o7]
   obtain ⟨⟨i6, h6, k6⟩, ⟨a6, b6, c6'⟩, hC6⟩ := w142 bs i5 h5 7 hb a5
   simp only at a6 b6 c6' hC6
   unfold curT at hC6
   refine callW_ms [.own, .ro] ?_
   simp [q0, q4, q5, q6, q7, o1, o2, o3, o4, o5, o6, o7]
   refine callX_of hC6 (by simp) ?_
   simp [q0, q4, q5, q6, q7, o1, o2, o3, o4, o5, o6, o7]
   refine exK_of (i6, h6, IntKind.i64.wrap (k6 - 1), e, 0, (0, 0, 0, 0), []) ⟨a6, (by simp)⟩ ?_
   simp [q0, q4, q5, q6, q7, o1, o2, o3, o4, o5, o6, o7, curT]
 ·simp [q0, q4, q5, q6, q7, o1, o2, o3, o4, o5, o6, o7]
  obtain ⟨⟨i2, h2, k2, v2⟩, ⟨a2, b2⟩, hC2⟩ := w184 bs i0 h0 c r d hb hi0 hc
  simp only at a2 b2 hC2
  unfold curT regO valV at hC2
  refine callW_ms [.own, .own] ?_
  simp [q0, q4, q5, q6, q7, o1, o2, o3, o4, o5, o6, o7]
  refine callX_of hC2 (by simp) ?_
  simp [q0, q4, q5, q6, q7, o1, o2, o3, o4, o5, o6, o7]
  obtain ⟨⟨i5, h5, y5⟩, a5, hC5⟩ := w132 bs i2 h2 14 hb a2
  simp only at a5 hC5
  unfold curT at hC5
  refine callW_ms [.own, .ro] ?_
  simp [q0, q4, q5, q6, q7, o1, o2, o3, o4, o5, o6, o7]
  refine callX_of hC5 (by simp) ?_
  cases y5 with
  | false =>
   simp [q0, q4, q5, q6, q7, o1, o2, o3, o4, o5, o6, o7]
   refine exK_of (i5, h5, 3, e, k2, v2, []) ⟨a5, (by simp)⟩ ?_
   simp [q0, q4, q5, q6, q7, o1, o2, o3, o4, o5, o6, o7, curT]
  | true =>
   simp [q0, q4, q5, q6, q7, o1, o2, o3, o4, o5, o6, o7]
   obtain ⟨⟨i6, h6, k6⟩, ⟨a6, b6, c6'⟩, hC6⟩ := w142 bs i5 h5 7 hb a5
   simp only at a6 b6 c6' hC6
   unfold curT at hC6
   refine callW_ms [.own, .ro] ?_
   simp [q0, q4, q5, q6, q7, o1, o2, o3, o4, o5, o6, o7]
   refine callX_of hC6 (by simp) ?_
   simp [q0, q4, q5, q6, q7, o1, o2, o3, o4, o5, o6, o7]
   refine exK_of (i6, h6, IntKind.i64.wrap (k6 - 1), e, k2, v2, []) ⟨a6, (by simp)⟩ ?_
   simp [q0, q4, q5, q6, q7, o1, o2, o3, o4, o5, o6, o7, curT]
 ·simp [q0, q4, q5, q6, q7, o1, o2, o3, o4, o5, o6, o7]
  obtain ⟨⟨i2, h2, k2, v2⟩, ⟨a2, b2⟩, hC2⟩ := w184 bs i0 h0 c r d hb hi0 hc
  simp only at a2 b2 hC2
  unfold curT regO valV at hC2
  refine callW_ms [.own, .own] ?_
  simp [q0, q4, q5, q6, q7, o1, o2, o3, o4, o5, o6, o7]
  refine callX_of hC2 (by simp) ?_
  simp [q0, q4, q5, q6, q7, o1, o2, o3, o4, o5, o6, o7]
  obtain ⟨⟨i5, h5, y5⟩, a5, hC5⟩ := w132 bs i2 h2 14 hb a2
  simp only at a5 hC5
  unfold curT at hC5
  refine callW_ms [.own, .ro] ?_
  simp [q0, q4, q5, q6, q7, o1, o2, o3, o4, o5, o6, o7]
  refine callX_of hC5 (by simp) ?_
  cases y5 with
  | false =>
   simp [q0, q4, q5, q6, q7, o1, o2, o3, o4, o5, o6, o7]
   refine exK_of (i5, h5, 4, e, k2, (0, 0, 0, 0), []) ⟨a5, (by simp)⟩ ?_
   simp [q0, q4, q5, q6, q7, o1, o2, o3, o4, o5, o6, o7, curT]
  | true =>
   simp [q0, q4, q5, q6, q7, o1, o2, o3, o4, o5, o6, o7]
   obtain ⟨⟨i6, h6, k6⟩, ⟨a6, b6, c6'⟩, hC6⟩ := w142 bs i5 h5 7 hb a5
   simp only at a6 b6 c6' hC6
   unfold curT at hC6
   refine callW_ms [.own, .ro] ?_
   simp [q0, q4, q5, q6, q7, o1, o2, o3, o4, o5, o6, o7]
   refine callX_of hC6 (by simp) ?_
   simp [q0, q4, q5, q6, q7, o1, o2, o3, o4, o5, o6, o7]
   refine exK_of (i6, h6, IntKind.i64.wrap (k6 - 1), e, k2, (0, 0, 0, 0), []) ⟨a6, (by simp)⟩ ?_
   simp [q0, q4, q5, q6, q7, o1, o2, o3, o4, o5, o6, o7, curT]
set_option maxHeartbeats 4000000 in
set_option maxRecDepth 100000 in
theorem w143 (bs : List Int) (i0 : Nat) (h0 : Int) (c r d : DcP) (g f : List Int) (ts : List TableP) (rs : List ValP) (hb : bs.length ≤ 2^40) (hi0 : i0 ≤ bs.length) (hc : c.length ≤ 20) (hg : g.length ≤ 2^36) (hf : f.length ≤ 2^36) : ∃ x : Nat × Int × CmdP, (CmdD bs x) ∧ Contract Try.prog true 143 [.own, .own, .own] [curT bs i0 h0, regO c r d, worldO g f ts rs] [cmdO x.2.2] [some (curT bs x.1 x.2.1), some (.sl true 2 (c.map dT)), some (.sl true 2 (r.map dT)), some (.sl true 2 (d.map dT)), some (.sl true 1 (g.map iT)), some (.sl true 1 (f.map iT)), some (.sl true 3 (ts.map tbO)), some (.sl true 4 (rs.map vT))] := by
 refine mk_contractE [some [(1, 0)], some [(6, 0), (0, 0)], some [(6, 0), (0, 1)], some [(6, 0), (0, 2)], some [(7, 0), (0, 0)], some [(7, 0), (0, 1)], some [(7, 0), (0, 2)], some [(7, 0), (0, 3)]] Try.func143 (c := Try.f143.body.get!) (by kernel_rfl) k143 r143 (of_decide_eq_true rfl) ?_
 have tl := tailC bs
 rw [c_restC]
 generalize restC = R at *
 simp only [fstW, sndW, c143]
 unfold curT worldO regO at *
 simp
 obtain ⟨⟨i1, h1, y1⟩, ⟨a1, b1, c1⟩, hC1⟩ := w142 bs i0 h0 4 hb hi0
 simp only at a1 b1 c1 hC1
 unfold curT at hC1
 refine callW_ms [.own, .ro] ?_
 simp
 refine callX_of hC1 (by simp) ?_
 simp
 have c1' := c1 (by omega)
 have hw : IntKind.i64.wrap (1 + y1) = 1 + y1 := wrap_id (by omega) (by omega)
 obtain ⟨⟨i2, h2, e2⟩, a2, hC2⟩ := w178 bs i1 h1 g f ts rs hb a1 hg hf
 simp only at a2 hC2
 unfold curT worldO at hC2
 refine callW_ms [.own, .own] ?_
 simp
 refine callX_of hC2 (by simp) ?_
 simp [hw]
 obtain ⟨⟨i3, h3, y3⟩, a3, hC3⟩ := w132 bs i2 h2 4 hb a2
 simp only at a3 hC3
 unfold curT at hC3
 refine callW_ms [.own, .ro] ?_
 simp
 refine callX_of hC3 (by simp) ?_
 cases y3 with
 | false =>
  simp
  refine tl i3 h3 c r d g f ts rs (1 + y1) e2 hb a3 hc (by omega) _ ?_ ?_ ?_ ?_ ?_ ?_ ?_ ?_ ?_ ?_ ?_ ?_ ?_ <;> simp
 | true =>
  simp
  obtain ⟨⟨i4, h4, y4⟩, ⟨a4, b4, c4⟩, hC4⟩ := w142 bs i3 h3 3 hb a3
  simp only at a4 b4 c4 hC4
  unfold curT at hC4
  refine callW_ms [.own, .ro] ?_
  simp
  refine callX_of hC4 (by simp) ?_
  simp
  refine tl i4 h4 c r d g f ts rs (1 + y1) (IntKind.i64.wrap (-1 - y4), 0) hb a4 hc (by omega) _ ?_ ?_ ?_ ?_ ?_ ?_ ?_ ?_ ?_ ?_ ?_ ?_ ?_ <;> simp
end Go.Proofs.YtmedelmfkciblaaT


namespace Go.Proofs.YtmedelmfkciblaaT
set_option linter.unusedVariables false
set_option linter.unusedSimpArgs false
open Go
set_option maxHeartbeats 8000000 in
set_option maxRecDepth 100000 in
theorem w138 (bs : List Int) (i0 : Nat) (h0 : Int) (c r d : DcP) (n : Nat) (hb : bs.length ≤ 2^40) (hi0 : i0 ≤ bs.length) (hc : c.length ≤ 20) (hr : r.length ≤ 20) (hd : d.length ≤ 20) (hn : n ≤ 100) : ∃ x : Nat × Int × WorldP, (WorldD bs x) ∧ Contract Try.prog true 138 [.own, .own, .ro] [curT bs i0 h0, regO c r d, .i .i64 n] [worldO x.2.2.1 x.2.2.2.1 x.2.2.2.2.1 x.2.2.2.2.2] [some (curT bs x.1 x.2.1), some (.sl true 2 (c.map dT)), some (.sl true 2 (r.map dT)), some (.sl true 2 (d.map dT))] := by
 refine mk_contractE [some [(1, 0)], some [(6, 0), (0, 0)], some [(6, 0), (0, 1)], some [(6, 0), (0, 2)]] Try.func138 (c := Try.f138.body.get!) (by kernel_rfl) k138 r138 (of_decide_eq_true rfl) ?_
 have tl := tailW bs
 have hN := w64 c r d (by omega) (by omega) (by omega)
 obtain ⟨hW0, hrs0⟩ := new_ok c r d hr
 obtain ⟨rs0, hrs⟩ : ∃ rs, newW c r d = ([], [], [], rs) := ⟨_, rfl⟩
 rw [hrs] at hN hW0 hrs0
 simp only at hN hrs0
 rw [c_restW]
 generalize restW = R at *
 simp only [fstW, sndW, c138]
 unfold curT worldO regR regO at *
 simp
 refine callW_ms [.ro] ?_
 simp
 refine callX_of hN (by simp) ?_
 simp
 refine twp_for rs0.length (fun j s => ∃ (i : Nat), i ≤ bs.length ∧ ∃ (h : Int) (rs : List ValP), (rs.length = rs0.length ∧ vOkV rs) ∧ s.t 0 = .pt [(1, 0)] 0 0 ∧ s.t 2 = .i .i64 n ∧ s.t 4 = .pt [(6, 0)] 0 0 ∧ s.t 6 = .pt [(8, 0)] 0 0 ∧ s.t 7 = .pt [(9, 0)] 0 0 ∧ s.t 8 = .i .i64 j ∧ s.org [(6, 0), (0, 0)] = some 1 ∧ s.org [(6, 0), (0, 1)] = some 2 ∧ s.org [(6, 0), (0, 2)] = some 3 ∧ s.H = lk [(1, [.po true [.sl false 1 (bs.map uT), .i .i64 i, .i .i64 h], .junk, .junk, .junk]), (6, [.po true [.sl true 2 (c.map dT), .sl true 2 (r.map dT), .sl true 2 (d.map dT)]]), (8, [.po true [.sl true 1 [], .sl true 1 [], .sl true 3 [], .sl true 4 []]]), (9, [.po true [.sl true 1 [], .sl true 1 [], .sl true 3 ([]), .sl true 4 (rs.map vT)]])]) [30] (by simp) ?_ ?_
 ·refine ⟨i0, hi0, h0, rs0, ⟨rfl, hW0.r.2⟩, ?_⟩
  simp
 ·rintro j s hj ⟨i, hi, h, rs, ⟨hrl, hrv⟩, q0, q2, q4, q6, q7, q8, o1, o2, o3, qH⟩
  rw [nf_of qH]
  have hr20 := hW0.r.1
  simp only at hr20
  have hw : IntKind.i64.wrap ((j : Int) + 1) = j + 1 := wrap_id (by omega) (by omega)
  cases hb9 : decide (j < rs.length)
  rotate_left
  ·have hlt := of_decide_eq_true hb9
   obtain ⟨dc, hdc⟩ : ∃ dc, r[j]? = some dc := get_some (by omega)
   obtain ⟨v0, hv0⟩ : ∃ v, rs[j]? = some v := get_some hlt
   have hjr : j < r.length := by omega
   simp [q0, q2, q4, q6, q7, o1, o2, o3, q8, hb9, hdc, hv0]
   refine ⟨hjr, ?_⟩
   obtain ⟨⟨i4, h4, v4⟩, ⟨a4, b4, c4⟩, hC4⟩ := w173 bs i h dc.2 hb hi
   simp only at a4 b4 hC4
   unfold curT valV at hC4
   refine callW_ms [.own, .ro] ?_
   simp [q0, q2, q4, q6, q7, o1, o2, o3, q8, hdc]
   refine callX_of hC4 (by simp) ?_
   simp [q0, q2, q4, q6, q7, o1, o2, o3, q8, hdc, hv0, hw, forK]
   refine ⟨by omega, by omega, i4, a4, h4, rs.set j v4, ⟨by rw [List.length_set]; exact hrl, fun x hx => ?_⟩, ?_⟩
   ·rcases List.mem_or_eq_of_mem_set hx with hx | rfl
    ·exact hrv x hx
    ·exact b4
   ·rw [mod_vT v4 hv0]
  ·have hge := of_decide_eq_false hb9
   simp [q0, q2, q4, q6, q7, o1, o2, o3, q8, hb9]
   have hW1 : WkP 0 ([], [], [], rs) := hW0.res (by omega) hrv
   obtain ⟨⟨i1, h1, y1⟩, a1, hC1⟩ := w132 bs i h 14 hb hi
   simp only at a1 hC1
   unfold curT at hC1
   refine callW_ms [.own, .ro] ?_
   simp [q0, q2, q4, q6, q7, o1, o2, o3]
   refine callX_of hC1 (by simp) ?_
   cases y1 with
   | false =>
    simp [q0, q2, q4, q6, q7, o1, o2, o3]
    refine tl i1 h1 n c r d ([], [], [], rs) hb a1 hn hc hr hd hW1 _ ?_ ?_ ?_ ?_ ?_ ?_ ?_ ?_ ?_ <;> simp [q0, q2, q4, q6, q7, o1, o2, o3]
   | true =>
    simp [q0, q2, q4, q6, q7, o1, o2, o3]
    refine twp_for 40 (fun j s => ∃ (ts : List TableP), WkP 0 ([], [], ts, rs) ∧ s.t 0 = .pt [(1, 0)] 0 0 ∧ s.t 2 = .i .i64 n ∧ s.t 4 = .pt [(6, 0)] 0 0 ∧ s.t 6 = .pt [(8, 0)] 0 0 ∧ s.t 7 = .pt [(9, 0)] 0 0 ∧ s.t 9 = .i .i64 j ∧ s.org [(6, 0), (0, 0)] = some 1 ∧ s.org [(6, 0), (0, 1)] = some 2 ∧ s.org [(6, 0), (0, 2)] = some 3 ∧ s.H = lk [(1, [.po true [.sl false 1 (bs.map uT), .i .i64 i1, .i .i64 h1], .junk, .junk, .junk]), (6, [.po true [.sl true 2 (c.map dT), .sl true 2 (r.map dT), .sl true 2 (d.map dT)]]), (8, [.po true [.sl true 1 [], .sl true 1 [], .sl true 3 [], .sl true 4 []]]), (9, [.po true [.sl true 1 [], .sl true 1 [], .sl true 3 (ts.map tbO), .sl true 4 (rs.map vT)]])]) [14, 65, 81, 82, 86] (by simp) ?_ ?_
    ·refine ⟨[], hW1, ?_⟩
     simp [q0, q2, q4, q6, q7, o1, o2, o3]
    ·rintro j s hj ⟨ts, hWt, q0, q2, q4, q6, q7, q9, o1, o2, o3, qH⟩
     rw [nf_of qH]
     have ht40 := hWt.t.m
     simp only at ht40
     have hw : IntKind.i64.wrap ((j : Int) + 1) = j + 1 := wrap_id (by omega) (by omega)
     cases hb9 : decide ((j : Int) < 40)
     ·simp [q0, q2, q4, q6, q7, o1, o2, o3, q9, hb9]
      refine tl i1 h1 n c r d ([], [], ts, rs) hb a1 hn hc hr hd hWt _ ?_ ?_ ?_ ?_ ?_ ?_ ?_ ?_ ?_ <;> simp [q0, q2, q4, q6, q7, o1, o2, o3]
     ·have h40 := of_decide_eq_true hb9
      simp [q0, q2, q4, q6, q7, o1, o2, o3, q9, hb9]
      refine ⟨wrap_u64_nn _, fun hlt => ?_, fun hge => ?_⟩
      rotate_left
      ·refine tl i1 h1 n c r d ([], [], ts, rs) hb a1 hn hc hr hd hWt _ ?_ ?_ ?_ ?_ ?_ ?_ ?_ ?_ ?_ <;> simp [q0, q2, q4, q6, q7, o1, o2, o3]
      ·refine twp_forR c.length (fun k s => ∃ (L : List Int), L.length ≤ k ∧ s.t 0 = .pt [(1, 0)] 0 0 ∧ s.t 2 = .i .i64 n ∧ s.t 4 = .pt [(6, 0)] 0 0 ∧ s.t 6 = .pt [(8, 0)] 0 0 ∧ s.t 7 = .pt [(9, 0)] 0 0 ∧ s.t 9 = .i .i64 j ∧ s.t 10 = .rf [(82, 0)] 0 L.length ∧ s.t 11 = .i .i64 k ∧ s.org [(6, 0), (0, 0)] = some 1 ∧ s.org [(6, 0), (0, 1)] = some 2 ∧ s.org [(6, 0), (0, 2)] = some 3 ∧ s.H = lk [(1, [.po true [.sl false 1 (bs.map uT), .i .i64 i1, .i .i64 h1], .junk, .junk, .junk]), (6, [.po true [.sl true 2 (c.map dT), .sl true 2 (r.map dT), .sl true 2 (d.map dT)]]), (8, [.po true [.sl true 1 [], .sl true 1 [], .sl true 3 [], .sl true 4 []]]), (9, [.po true [.sl true 1 [], .sl true 1 [], .sl true 3 (ts.map tbO), .sl true 4 (rs.map vT)]]), (82, [.sl true 1 (L.map iT)])]) [81] [(65, 82)] (by simp) (by simp) ?_ ?_
       ·refine ⟨[], by simp, ?_⟩
        simp [q0, q2, q4, q6, q7, o1, o2, o3, q9, renO]
       ·rintro k s hk ⟨L, hLk, q0, q2, q4, q6, q7, q9, q10, q11, o1, o2, o3, qH⟩
        rw [nf_of qH]
        have hwk : IntKind.i64.wrap ((k : Int) + 1) = k + 1 := wrap_id (by omega) (by omega)
        cases hb8 : decide (k < c.length)
        ·have hge := of_decide_eq_false hb8
         simp [q0, q2, q4, q6, q7, o1, o2, o3, q9, q10, q11, hb8]
         by_cases hfu : fullT ts L
         ·have hT := W174f [] [] ts rs L (fun t ht => by have := (hWt.t.t t ht).c; omega) (by omega) (by omega) hfu
          unfold worldR at hT
          refine callW_ms [.ro, .ro] ?_
          simp
          refine callX_of hT (by simp) ?_
          simp [q0, q2, q4, q6, q7, o1, o2, o3, q9, q10, q11, hw, forK]
          exact ⟨by omega, ts, hWt, rfl⟩
         ·have hT := w174 [] [] ts rs L (fun t ht => by have := (hWt.t.t t ht).c; omega) (by omega) (by omega) hfu
          have hW2 := hWt.tab hfu (by omega)
          unfold worldO at hT
          refine callW_ms [.own, .ro] ?_
          simp
          refine callX_of hT (by simp) ?_
          simp [q0, q2, q4, q6, q7, o1, o2, o3, q9, q10, q11, hw, forK]
          exact ⟨by omega, _, hW2, rfl⟩
        ·have hlt := of_decide_eq_true hb8
         simp [q0, q2, q4, q6, q7, o1, o2, o3, q9, q10, q11, hb8]
         refine ⟨wrap_u64_nn _, fun hb1 => ?_, fun hb1 => ?_⟩
         ·simp [q0, q2, q4, q6, q7, o1, o2, o3, q9, q10, q11, hwk, forK]
          refine ⟨by omega, hlt, L ++ [(k : Int)], by simp; omega, ?_⟩
          simp [q0, q2, q4, q6, q7, o1, o2, o3, hwk]
         ·simp [q0, q2, q4, q6, q7, o1, o2, o3, q9, q10, q11, hwk, forK]
          refine ⟨hlt, L, by omega, ?_⟩
          simp [q0, q2, q4, q6, q7, o1, o2, o3, hwk]
end Go.Proofs.YtmedelmfkciblaaT


namespace Go.Proofs.YtmedelmfkciblaaT
set_option linter.unusedVariables false
set_option linter.unusedSimpArgs false
open Go
def c140 : TCode := (.seq (.ops [⟨(some 4), 6, .mv (.c (.i .i64 0)), none, []⟩])
 (.seq (.ops [⟨(some 6), 8, .mv (.t 0), none, []⟩, ⟨(some 7), 9, .len false (.t 6), none, []⟩, ⟨(some 8), 10, .bin .quo (.t 7) (.c (.i .i64 20)), none, []⟩, ⟨(some 9), 11, .bin .add (.c (.i .i64 2)) (.t 8), none, []⟩, ⟨(some 5), 7, .mv (.t 9), none, []⟩])
 (.seq (.seq (.ops [⟨(some 10), 12, .mv (.t 5), none, []⟩, ⟨(some 11), 13, .mv (.t 1), none, []⟩, ⟨(some 12), 14, .bin .gtr (.t 10) (.t 11), none, []⟩])
 (.cond (.t 12)
 (.seq (.ops [⟨(some 13), 15, .mv (.t 1), none, []⟩, ⟨(some 4), 6, .mv (.t 13), none, []⟩])
 .ret)
 .skip))
 (.seq (.ops [⟨(some 14), 16, .mv (.t 5), none, []⟩, ⟨(some 4), 6, .mv (.t 14), none, []⟩])
 .ret))))
theorem k140 : compCode Try.prog Try.f140.ntmps Try.f140.body.get! = some c140 := by kernel_rfl
theorem r140 : resTmps Try.prog Try.f140.results.toList = some [.tmp 4] := by kernel_rfl
def c181 : TCode := (.seq (.ops [⟨(some 3), 5, .box 2 (.t 1), none, []⟩, ⟨(some 4), 6, .box 2 (.c (.ag [(.sl true 1 []), (.sl true 1 [])])), none, []⟩])
 (.seq (.seq (.ops [⟨(some 6), 8, .mv (.t 0), none, []⟩, ⟨(some 7), 9, .call 142 [((.t 6), 3), ((.c (.i .i64 4)), 0)], none, []⟩])
 (.block 0 (.seq (.ops [⟨(some 18), 20, .bin .eql (.t 7) (.c (.i .i64 0)), none, []⟩, ⟨(some 17), 19, .mv (.t 18), none, []⟩])
 (.cond (.t 17)
 (.draw [⟨(some 19), 21, .faddr 1 1 (.t 3), none, []⟩, ⟨(some 20), 22, .load false 1 (.t 19), none, []⟩, ⟨(some 21), 23, .mv (.t 0), none, []⟩, ⟨(some 22), 24, .faddr 0 1 (.t 3), none, []⟩, ⟨(some 23), 25, .load false 1 (.t 22), none, []⟩, ⟨(some 24), 26, .len false (.t 23), none, []⟩, ⟨(some 25), 27, .bin .add (.t 24) (.c (.i .i64 3)), none, []⟩, ⟨(some 26), 28, .call 142 [((.t 21), 3), ((.t 25), 0)], none, [0, 1]⟩, ⟨(some 27), 29, .bin .sub (.t 26) (.c (.i .i64 1)), none, []⟩, ⟨(some 28), 30, .bslice 1 1 [(.i .i64 0)] [(0, (.t 27))], none, [0, 1]⟩, ⟨(some 29), 31, .app 1 8 (.t 20) (.t 28), none, []⟩, ⟨(some 30), 32, .faddr 1 1 (.t 3), none, []⟩, ⟨none, 1007012, .store 1 (.t 30) (.t 29), none, []⟩])
 (.seq (.ops [⟨(some 32), 34, .bin .eql (.t 7) (.c (.i .i64 1)), none, []⟩, ⟨(some 31), 33, .mv (.t 32), none, []⟩])
 (.cond (.t 31)
 (.seq (.ops [⟨(some 33), 35, .faddr 0 1 (.t 3), none, []⟩, ⟨(some 34), 36, .load false 1 (.t 33), none, []⟩, ⟨(some 35), 37, .len false (.t 34), none, []⟩, ⟨(some 36), 38, .bin .gtr (.t 35) (.c (.i .i64 0)), none, []⟩])
 (.cond (.t 36)
 (.draw [⟨(some 37), 39, .faddr 0 1 (.t 3), none, []⟩, ⟨(some 38), 40, .load false 1 (.t 37), none, []⟩, ⟨(some 39), 41, .mv (.t 0), none, []⟩, ⟨(some 40), 42, .faddr 0 1 (.t 3), none, []⟩, ⟨(some 41), 43, .load false 1 (.t 40), none, []⟩, ⟨(some 42), 44, .len false (.t 41), none, []⟩, ⟨(some 43), 45, .call 142 [((.t 39), 3), ((.t 42), 0)], none, [0, 1]⟩, ⟨(some 44), 46, .mv (.t 0), none, [6]⟩, ⟨(some 45), 47, .bslice 1 2 [(.i .i64 0)] [(0, (.c (.i .i64 (-1)))), (1, (.c (.i .i64 1000001)))], none, [0, 1, 2, 3, 4, 5, 6, 7]⟩, ⟨(some 46), 48, .call 171 [((.t 44), 3), ((.t 45), 0)], none, [0, 1]⟩, ⟨(some 47), 49, .iaddr 1 (.t 38) (.t 43), none, []⟩, ⟨none, 1010011, .store 1 (.t 47) (.t 46), none, []⟩])
 .skip))
 (.seq (.ops [⟨(some 49), 51, .bin .eql (.t 7) (.c (.i .i64 2)), none, []⟩, ⟨(some 48), 50, .mv (.t 49), none, []⟩])
 (.cond (.t 48)
 (.seq (.ops [⟨(some 50), 52, .faddr 1 1 (.t 3), none, []⟩, ⟨(some 51), 53, .load false 1 (.t 50), none, []⟩, ⟨(some 52), 54, .len false (.t 51), none, []⟩, ⟨(some 53), 55, .bin .gtr (.t 52) (.c (.i .i64 0)), none, []⟩])
 (.cond (.t 53)
 (.draw [⟨(some 54), 56, .faddr 1 1 (.t 3), none, []⟩, ⟨(some 55), 57, .load false 1 (.t 54), none, []⟩, ⟨(some 56), 58, .faddr 1 1 (.t 3), none, []⟩, ⟨(some 57), 59, .load false 1 (.t 56), none, []⟩, ⟨(some 58), 60, .iaddr 1 (.t 57) (.c (.i .i64 0)), none, []⟩, ⟨(some 59), 61, .load false 1 (.t 58), none, []⟩, ⟨(some 60), 62, .bslice 1 1 [(.i .i64 0)] [(0, (.t 59))], none, [0, 1]⟩, ⟨(some 61), 63, .app 1 8 (.t 55) (.t 60), none, []⟩, ⟨(some 62), 64, .faddr 1 1 (.t 3), none, []⟩, ⟨none, 1013009, .store 1 (.t 62) (.t 61), none, []⟩])
 .skip))
 (.seq (.ops [⟨(some 5), 7, .mv (.c (.i .i64 0)), none, []⟩])
 (.block 1 (.loop (.seq (.seq (.ops [⟨(some 8), 10, .mv (.t 5), none, []⟩, ⟨(some 9), 11, .bin .lss (.t 8) (.c (.i .i64 3)), none, []⟩])
 (.cond (.t 9)
 .skip
 (.exit 1)))
 (.seq (.block 2 (.ops [⟨(some 12), 14, .faddr 0 1 (.t 3), none, []⟩, ⟨(some 13), 15, .load false 1 (.t 12), none, []⟩, ⟨(some 14), 16, .bslice 1 1 [(.i .i64 0)] [(0, (.c (.i .i64 0)))], none, []⟩, ⟨(some 15), 17, .app 1 8 (.t 13) (.t 14), none, []⟩, ⟨(some 16), 18, .faddr 0 1 (.t 3), none, []⟩, ⟨none, 1005005, .store 1 (.t 16) (.t 15), none, []⟩]))
 (.ops [⟨(some 10), 12, .mv (.t 5), none, []⟩, ⟨(some 11), 13, .bin .add (.t 10) (.c (.i .i64 1)), none, []⟩, ⟨(some 5), 7, .mv (.t 11), none, []⟩]))))))))))))))
 (.seq (.ops [⟨(some 63), 65, .load true 2 (.t 3), none, []⟩, ⟨none, 1014001, .store 2 (.t 4) (.t 63), none, []⟩])
 .ret)))
theorem k181 : compCode Try.prog Try.f181.ntmps Try.f181.body.get! = some c181 := by kernel_rfl
theorem r181 : resTmps Try.prog Try.f181.results.toList = some [.cell 4 true 2] := by kernel_rfl
def c141 : TCode := (.seq (.ops [⟨(some 3), 5, .box 4 (.t 1), none, []⟩, ⟨(some 4), 6, .box 4 (.c (.ag [(.sl true 1 []), (.sl true 1 []), (.sl true 3 []), (.sl true 4 [])])), none, []⟩])
 (.seq (.seq (.ops [⟨(some 5), 7, .mv (.t 0), none, []⟩, ⟨(some 6), 8, .call 142 [((.t 5), 3), ((.c (.i .i64 6)), 0)], none, []⟩])
 (.block 0 (.seq (.ops [⟨(some 39), 41, .bin .eql (.t 6) (.c (.i .i64 0)), none, []⟩, ⟨(some 38), 40, .mv (.t 39), none, []⟩])
 (.cond (.t 38)
 (.ops [⟨(some 40), 42, .mv (.t 0), none, []⟩, ⟨(some 41), 43, .faddr 0 2 (.t 3), none, []⟩, ⟨(some 42), 44, .load true 2 (.t 41), none, []⟩, ⟨(some 43), 45, .call 181 [((.t 40), 3), ((.t 42), 0)], none, []⟩, ⟨(some 44), 46, .faddr 0 2 (.t 3), none, []⟩, ⟨none, 1005005, .store 2 (.t 44) (.t 43), none, []⟩])
 (.seq (.ops [⟨(some 46), 48, .bin .eql (.t 6) (.c (.i .i64 1)), none, []⟩, ⟨(some 45), 47, .mv (.t 46), none, []⟩])
 (.cond (.t 45)
 (.seq (.ops [⟨(some 47), 49, .faddr 2 1 (.t 3), none, []⟩, ⟨(some 48), 50, .load false 1 (.t 47), none, []⟩, ⟨(some 49), 51, .len false (.t 48), none, []⟩, ⟨(some 50), 52, .bin .gtr (.t 49) (.c (.i .i64 0)), none, []⟩, ⟨(some 51), 53, .mv (.t 50), none, []⟩, ⟨(some 52), 54, .faddr 2 1 (.t 3), (some (51, true)), []⟩, ⟨(some 53), 55, .load false 1 (.t 52), (some (51, true)), []⟩, ⟨(some 54), 56, .iaddr 3 (.t 53) (.c (.i .i64 0)), (some (51, true)), []⟩, ⟨(some 55), 57, .faddr 1 1 (.t 54), (some (51, true)), []⟩, ⟨(some 56), 58, .load false 1 (.t 55), (some (51, true)), []⟩, ⟨(some 57), 59, .len false (.t 56), (some (51, true)), []⟩, ⟨(some 58), 60, .bin .gtr (.t 57) (.c (.i .i64 0)), (some (51, true)), []⟩, ⟨(some 59), 61, .pick (.t 51) (.t 58) (.c (.b false)), none, []⟩])
 (.cond (.t 59)
 (.draw [⟨(some 60), 62, .faddr 2 1 (.t 3), none, []⟩, ⟨(some 61), 63, .load false 1 (.t 60), none, []⟩, ⟨(some 62), 64, .iaddr 3 (.t 61) (.c (.i .i64 0)), none, []⟩, ⟨(some 63), 65, .faddr 1 1 (.t 62), none, []⟩, ⟨(some 64), 66, .load false 1 (.t 63), none, []⟩, ⟨(some 65), 67, .faddr 2 1 (.t 3), none, []⟩, ⟨(some 66), 68, .load false 1 (.t 65), none, []⟩, ⟨(some 67), 69, .iaddr 3 (.t 66) (.c (.i .i64 0)), none, []⟩, ⟨(some 68), 70, .faddr 1 1 (.t 67), none, []⟩, ⟨(some 69), 71, .load false 1 (.t 68), none, []⟩, ⟨(some 70), 72, .iaddr 2 (.t 69) (.c (.i .i64 0)), none, []⟩, ⟨(some 71), 73, .faddr 1 1 (.t 70), none, []⟩, ⟨(some 72), 74, .load false 1 (.t 71), none, []⟩, ⟨(some 73), 75, .bin .add (.t 72) (.c (.i .i64 1)), none, []⟩, ⟨(some 74), 76, .iaddr 2 (.t 64) (.c (.i .i64 0)), none, []⟩, ⟨(some 75), 77, .faddr 1 1 (.t 74), none, []⟩, ⟨none, 1008016, .store 1 (.t 75) (.t 73), none, []⟩])
 .skip))
 (.seq (.ops [⟨(some 77), 79, .bin .eql (.t 6) (.c (.i .i64 2)), none, []⟩, ⟨(some 76), 78, .mv (.t 77), none, []⟩])
 (.cond (.t 76)
 (.seq (.ops [⟨(some 78), 80, .faddr 2 1 (.t 3), none, []⟩, ⟨(some 79), 81, .load false 1 (.t 78), none, []⟩, ⟨(some 80), 82, .len false (.t 79), none, []⟩, ⟨(some 81), 83, .bin .gtr (.t 80) (.c (.i .i64 0)), none, []⟩])
 (.cond (.t 81)
 (.draw [⟨(some 82), 84, .faddr 2 1 (.t 3), none, []⟩, ⟨(some 83), 85, .load false 1 (.t 82), none, []⟩, ⟨(some 84), 86, .bslice 1 0 [(.i .i64 0)] [], none, [0, 1]⟩, ⟨(some 85), 87, .faddr 2 1 (.t 3), none, [2]⟩, ⟨(some 86), 88, .load false 1 (.t 85), none, [2]⟩, ⟨(some 87), 89, .iaddr 3 (.t 86) (.c (.i .i64 0)), none, [2]⟩, ⟨(some 88), 90, .faddr 0 1 (.t 87), none, [2]⟩, ⟨(some 89), 91, .load false 1 (.t 88), none, [2]⟩, ⟨(some 90), 92, .app 1 8 (.t 84) (.t 89), none, [0, 1]⟩, ⟨(some 91), 93, .bslice 1 0 [(.sl true 4 [])] [], none, [0, 1, 2, 3, 4, 5, 6, 7, 8]⟩, ⟨(some 92), 94, .build [(.sl true 1 []), (.sl true 2 []), (.sl true 1 [])] [(0, 1, (.t 90)), (2, 1, (.t 91))], none, []⟩, ⟨(some 93), 95, .bslice 3 1 [(.sl true 1 []), (.sl true 2 []), (.sl true 1 [])] [(0, (.t 92))], none, [0, 1]⟩, ⟨(some 94), 96, .app 3 72 (.t 83) (.t 93), none, []⟩, ⟨(some 95), 97, .faddr 2 1 (.t 3), none, []⟩, ⟨none, 1011014, .store 1 (.t 95) (.t 94), none, []⟩])
 .skip))
 (.seq (.ops [⟨(some 97), 99, .bin .eql (.t 6) (.c (.i .i64 3)), none, []⟩, ⟨(some 96), 98, .mv (.t 97), none, []⟩])
 (.cond (.t 96)
 (.seq (.ops [⟨(some 98), 100, .faddr 3 1 (.t 3), none, []⟩, ⟨(some 99), 101, .load false 1 (.t 98), none, []⟩, ⟨(some 100), 102, .len false (.t 99), none, []⟩, ⟨(some 101), 103, .bin .gtr (.t 100) (.c (.i .i64 0)), none, []⟩])
 (.cond (.t 101)
 (.ops [⟨(some 102), 104, .faddr 3 1 (.t 3), none, []⟩, ⟨(some 103), 105, .load false 1 (.t 102), none, []⟩, ⟨(some 104), 106, .slice false 4 (.t 103) (some (.c (.i .i64 1))) none, none, []⟩, ⟨(some 105), 107, .faddr 3 1 (.t 3), none, []⟩, ⟨none, 1014004, .store 1 (.t 105) (.t 104), none, []⟩])
 .skip))
 (.seq (.ops [⟨(some 107), 109, .bin .eql (.t 6) (.c (.i .i64 4)), none, []⟩, ⟨(some 106), 108, .mv (.t 107), none, []⟩])
 (.cond (.t 106)
 (.seq (.ops [⟨(some 108), 110, .faddr 2 1 (.t 3), none, []⟩, ⟨(some 109), 111, .load false 1 (.t 108), none, []⟩, ⟨(some 110), 112, .len false (.t 109), none, []⟩, ⟨(some 111), 113, .bin .gtr (.t 110) (.c (.i .i64 0)), none, []⟩, ⟨(some 112), 114, .mv (.t 111), none, []⟩, ⟨(some 113), 115, .faddr 2 1 (.t 3), (some (112, true)), []⟩, ⟨(some 114), 116, .load false 1 (.t 113), (some (112, true)), []⟩, ⟨(some 115), 117, .iaddr 3 (.t 114) (.c (.i .i64 0)), (some (112, true)), []⟩, ⟨(some 116), 118, .faddr 2 1 (.t 115), (some (112, true)), []⟩, ⟨(some 117), 119, .load false 1 (.t 116), (some (112, true)), []⟩, ⟨(some 118), 120, .len false (.t 117), (some (112, true)), []⟩, ⟨(some 119), 121, .bin .gtr (.t 118) (.c (.i .i64 0)), (some (112, true)), []⟩, ⟨(some 120), 122, .pick (.t 112) (.t 119) (.c (.b false)), none, []⟩, ⟨(some 121), 123, .mv (.t 120), none, []⟩, ⟨(some 122), 124, .faddr 2 1 (.t 3), (some (121, true)), []⟩, ⟨(some 123), 125, .load false 1 (.t 122), (some (121, true)), []⟩, ⟨(some 124), 126, .iaddr 3 (.t 123) (.c (.i .i64 0)), (some (121, true)), []⟩, ⟨(some 125), 127, .faddr 2 1 (.t 124), (some (121, true)), []⟩, ⟨(some 126), 128, .load false 1 (.t 125), (some (121, true)), []⟩, ⟨(some 127), 129, .iaddr 1 (.t 126) (.c (.i .i64 0)), (some (121, true)), []⟩, ⟨(some 128), 130, .load false 1 (.t 127), (some (121, true)), []⟩, ⟨(some 129), 131, .len false (.t 128), (some (121, true)), []⟩, ⟨(some 130), 132, .bin .gtr (.t 129) (.c (.i .i64 0)), (some (121, true)), []⟩, ⟨(some 131), 133, .pick (.t 121) (.t 130) (.c (.b false)), none, []⟩])
 (.cond (.t 131)
 (.draw [⟨(some 132), 134, .faddr 2 1 (.t 3), none, []⟩, ⟨(some 133), 135, .load false 1 (.t 132), none, []⟩, ⟨(some 134), 136, .iaddr 3 (.t 133) (.c (.i .i64 0)), none, []⟩, ⟨(some 135), 137, .faddr 2 1 (.t 134), none, []⟩, ⟨(some 136), 138, .load false 1 (.t 135), none, []⟩, ⟨(some 137), 139, .iaddr 1 (.t 136) (.c (.i .i64 0)), none, []⟩, ⟨(some 138), 140, .load false 1 (.t 137), none, []⟩, ⟨(some 139), 141, .mv (.t 0), none, []⟩, ⟨(some 140), 142, .call 182 [((.t 139), 3)], none, [0, 1, 2, 3, 4, 5, 6]⟩, ⟨(some 141), 143, .iaddr 4 (.t 138) (.c (.i .i64 0)), none, []⟩, ⟨none, 1017010, .store 4 (.t 141) (.t 140), none, []⟩])
 .skip))
 (.seq (.ops [⟨(some 7), 9, .faddr 2 1 (.t 3), none, []⟩, ⟨(some 8), 10, .load false 1 (.t 7), none, []⟩, ⟨(some 9), 11, .len false (.t 8), none, []⟩, ⟨(some 10), 12, .bin .gtr (.t 9) (.c (.i .i64 0)), none, []⟩, ⟨(some 11), 13, .mv (.t 10), none, []⟩, ⟨(some 12), 14, .faddr 2 1 (.t 3), (some (11, true)), []⟩, ⟨(some 13), 15, .load false 1 (.t 12), (some (11, true)), []⟩, ⟨(some 14), 16, .iaddr 3 (.t 13) (.c (.i .i64 0)), (some (11, true)), []⟩, ⟨(some 15), 17, .faddr 1 1 (.t 14), (some (11, true)), []⟩, ⟨(some 16), 18, .load false 1 (.t 15), (some (11, true)), []⟩, ⟨(some 17), 19, .len false (.t 16), (some (11, true)), []⟩, ⟨(some 18), 20, .bin .gtr (.t 17) (.c (.i .i64 0)), (some (11, true)), []⟩, ⟨(some 19), 21, .pick (.t 11) (.t 18) (.c (.b false)), none, []⟩])
 (.cond (.t 19)
 (.draw [⟨(some 20), 22, .faddr 2 1 (.t 3), none, []⟩, ⟨(some 21), 23, .load false 1 (.t 20), none, []⟩, ⟨(some 22), 24, .faddr 2 1 (.t 3), none, []⟩, ⟨(some 23), 25, .load false 1 (.t 22), none, []⟩, ⟨(some 24), 26, .iaddr 3 (.t 23) (.c (.i .i64 0)), none, []⟩, ⟨(some 25), 27, .faddr 1 1 (.t 24), none, []⟩, ⟨(some 26), 28, .load false 1 (.t 25), none, []⟩, ⟨(some 27), 29, .faddr 2 1 (.t 3), none, []⟩, ⟨(some 28), 30, .load false 1 (.t 27), none, []⟩, ⟨(some 29), 31, .iaddr 3 (.t 28) (.c (.i .i64 0)), none, []⟩, ⟨(some 30), 32, .faddr 1 1 (.t 29), none, []⟩, ⟨(some 31), 33, .load false 1 (.t 30), none, []⟩, ⟨(some 32), 34, .iaddr 2 (.t 31) (.c (.i .i64 0)), none, []⟩, ⟨(some 33), 35, .load true 2 (.t 32), none, []⟩, ⟨(some 34), 36, .bslice 2 1 [(.i .i64 0), (.i .i64 0)] [(0, (.t 33))], none, [0, 1, 2, 3, 4, 5, 6]⟩, ⟨(some 35), 37, .app 2 16 (.t 26) (.t 34), none, [0, 1]⟩, ⟨(some 36), 38, .iaddr 3 (.t 21) (.c (.i .i64 0)), none, []⟩, ⟨(some 37), 39, .faddr 1 1 (.t 36), none, []⟩, ⟨none, 1003018, .store 1 (.t 37) (.t 35), none, []⟩])
 .skip))))))))))))))
 (.seq (.ops [⟨(some 142), 144, .load true 4 (.t 3), none, []⟩, ⟨none, 1018001, .store 4 (.t 4) (.t 142), none, []⟩])
 .ret)))
theorem k141 : compCode Try.prog Try.f141.ntmps Try.f141.body.get! = some c141 := by kernel_rfl
theorem r141 : resTmps Try.prog Try.f141.results.toList = some [.cell 4 true 4] := by kernel_rfl
theorem w140 (bs : List Int) (m : Int) (hb : bs.length ≤ 2^40) : Contract Try.prog false 140 [.ro, .ro] [.sl false 1 (bs.map uT), .i .i64 m] [.i .i64 (if m < 2 + (bs.length : Int).tdiv 20 then m else 2 + (bs.length : Int).tdiv 20)] [] := by
 refine mk_contract [] Try.func140 (c := Try.f140.body.get!) (by kernel_rfl) k140 r140 (of_decide_eq_true rfl) fun _ => ?_
 have e1 : (bs.length : Int).tdiv 20 = ((bs.length : Int) / 20) := Int.tdiv_eq_ediv_of_nonneg (by omega)
 have w1 : IntKind.i64.wrap ((bs.length : Int) / 20) = ((bs.length : Int) / 20) := wrap_id (by omega) (by omega)
 have w2 : IntKind.i64.wrap (2 + ((bs.length : Int) / 20)) = 2 + ((bs.length : Int) / 20) := wrap_id (by omega) (by omega)
 rw [e1]
 unfold c140; simp [e1, w1, w2]
 refine ⟨fun h => ?_, fun h => ?_⟩ <;> omega
def EntsA (bs : List Int) (x : Nat × Int × List Int × List Int) : Prop := x.1 ≤ bs.length ∧ x.2.2.1.length ≤ 2003 ∧ x.2.2.2.length ≤ 2001
set_option maxHeartbeats 2000000 in
set_option maxRecDepth 100000 in
theorem w181 (bs : List Int) (i0 : Nat) (h0 : Int) (g f : List Int) (hb : bs.length ≤ 2^40) (hi0 : i0 ≤ bs.length) (hg : g.length ≤ 2000) (hf : f.length ≤ 2000) : ∃ x : Nat × Int × List Int × List Int, (EntsA bs x) ∧ Contract Try.prog true 181 [.own, .own] [curT bs i0 h0, entsO g f] [entsO x.2.2.1 x.2.2.2] [some (curT bs x.1 x.2.1), none, none] := by
 refine mk_contractE [some [(1, 0)], none, none] Try.func181 (c := Try.f181.body.get!) (by kernel_rfl) k181 r181 (of_decide_eq_true rfl) ?_
 unfold c181; unfold curT entsO; simp
 obtain ⟨⟨i1, h1, y1⟩, ⟨a1, b1, c1⟩, hC1⟩ := w142 bs i0 h0 4 hb hi0
 simp only at a1 b1 c1 hC1
 unfold curT at hC1
 refine callW_ms [.own, .ro] ?_
 simp
 refine callX_of hC1 (by simp) ?_
 have c1' := c1 (by omega)
 have hw3 : IntKind.i64.wrap ((g.length : Int) + 3) = g.length + 3 := wrap_id (by omega) (by omega)
 rcases (by omega : y1 = 0 ∨ y1 = 1 ∨ y1 = 2 ∨ y1 = 3) with rfl | rfl | rfl | rfl
 ·simp [hw3]
  obtain ⟨⟨i2, h2, y2⟩, ⟨a2, b2, c2⟩, hC2⟩ := w142 bs i1 h1 ((g.length : Int) + 3) hb a1
  simp only at a2 b2 c2 hC2
  unfold curT at hC2
  refine callW_ms [.own, .ro] ?_
  simp
  refine callX_of hC2 (by simp) ?_
  simp
  refine ⟨by omega, ?_⟩
  refine exK_of (i2, h2, g, f ++ [IntKind.i64.wrap (y2 - 1)]) ⟨a2, by simp only; omega, by simp; omega⟩ ?_
  simp
 ·simp
  refine ⟨fun hlt => ?_, fun hge => ?_⟩
  ·obtain ⟨⟨i2, h2, y2⟩, ⟨a2, b2, c2⟩, hC2⟩ := w142 bs i1 h1 (g.length : Int) hb a1
   simp only at a2 b2 c2 hC2
   unfold curT at hC2
   have c3 := c2 (by omega)
   refine callW_ms [.own, .ro] ?_
   simp
   refine callX_of hC2 (by simp) ?_
   simp [b2]
   obtain ⟨⟨i3, h3, y3⟩, ⟨a3, b3⟩, hC3⟩ := w171 bs [-1, 1000001] i2 h2 hb a2 (by simp) (by simp)
   simp only at a3 b3 hC3
   unfold curT at hC3
   refine callW_ms [.own, .own] ?_
   simp
   refine callX_of hC3 (by simp) ?_
   obtain ⟨z, hz⟩ : ∃ z, g[y2.toNat]? = some z := get_some (by omega)
   simp [b2, hz]
   refine ⟨c3, ?_⟩
   refine exK_of (i3, h3, g.set y2.toNat y3, f) (show EntsA bs (i3, h3, g.set y2.toNat y3, f) from ⟨a3, by simp; omega, by simp only; omega⟩) ?_
   simp [List.map_set]
  ·refine exK_of (i1, h1, g, f) ⟨a1, by simp only; omega, by simp only; omega⟩ ?_
   simp
 ·simp
  refine ⟨fun hlt => ?_, fun hge => ?_⟩
  ·obtain ⟨z, hz⟩ : ∃ z, f[0]? = some z := get_some (by omega)
   refine ⟨hlt, ?_⟩
   simp [hz]
   refine ⟨by omega, ?_⟩
   refine exK_of (i1, h1, g, f ++ [z]) ⟨a1, by simp only; omega, by simp; omega⟩ ?_
   simp
  ·refine exK_of (i1, h1, g, f) ⟨a1, by simp only; omega, by simp only; omega⟩ ?_
   simp
 ·simp
  refine twp_for 3 (fun j s => ∃ (g : List Int), g.length ≤ 2000 + j ∧ s.t 0 = .pt [(1, 0)] 0 0 ∧ s.t 3 = .pt [(5, 0)] 0 0 ∧ s.t 4 = .pt [(6, 0)] 0 0 ∧ s.t 5 = .i .i64 j ∧ s.H = lk [(1, [.po true [.sl false 1 (bs.map uT), .i .i64 i1, .i .i64 h1], .junk, .junk]), (5, [.po true [.sl true 1 (g.map iT), .sl true 1 (f.map iT)]]), (6, [.po true [.sl true 1 [], .sl true 1 []]])]) [16, 17] (by simp) ?_ ?_
  ·refine ⟨g, by omega, ?_⟩
   simp
  ·rintro j s hj ⟨g, hgl, q0, q3, q4, q5, qH⟩
   rw [nf_of qH]
   have hw : IntKind.i64.wrap ((j : Int) + 1) = j + 1 := wrap_id (by omega) (by omega)
   cases hb9 : decide ((j : Int) < 3)
   ·have hge := of_decide_eq_false hb9
    simp [q0, q3, q4, q5, hb9]
    refine exK_of (i1, h1, g, f) ⟨a1, by simp only; omega, by simp only; omega⟩ ?_
    simp [q4]
   ·have hlt := of_decide_eq_true hb9
    simp [q0, q3, q4, q5, hb9, hw, forK]
    refine ⟨by omega, by omega, g ++ [0], by simp; omega, ?_⟩
    simp
structure WoP (w : WorldP) : Prop where
 g : w.1.length ≤ 2010
 f : w.2.1.length ≤ 2010
 n : w.2.2.1.length ≤ 41
 c : ∀ t ∈ w.2.2.1, t.1.length ≤ 500 ∧ t.2.1.length ≤ 500 ∧ t.2.2.length ≤ 500 ∧ ∀ v ∈ t.2.2, v.length ≤ 500
 v : ∀ t ∈ w.2.2.1, ∀ v ∈ t.2.2, vOkV v
 r : w.2.2.2.length ≤ 20 ∧ vOkV w.2.2.2
theorem WkP.wo {n : Nat} {w : WorldP} (h : WkP n w) (hn : n ≤ 450) : WoP w :=
 ⟨by have := h.gl; omega, by have := h.fl; omega, by have := h.t.m; omega, fun t ht => by
  have h1 := h.t.t t ht
  have := h1.c
  have := h1.r
  have := h1.s
  exact ⟨by omega, by omega, by omega, fun v hv => by have := h1.v v hv; omega⟩, fun t ht => (h.t.t t ht).f, h.r⟩
theorem WoP.hd {g f : List Int} {t t' : TableP} {ts : List TableP} {rs : List ValP} (h : WoP (g, f, t :: ts, rs)) (hc : t'.1.length ≤ 500 ∧ t'.2.1.length ≤ 500 ∧ t'.2.2.length ≤ 500 ∧ ∀ v ∈ t'.2.2, v.length ≤ 500) (hv : ∀ v ∈ t'.2.2, vOkV v) : WoP (g, f, t' :: ts, rs) :=
 ⟨h.g, h.f, h.n, fun x hx => by
  rcases List.mem_cons.1 hx with rfl | hx
  ·exact hc
  ·exact h.c x (by simp [hx]), fun x hx => by
  rcases List.mem_cons.1 hx with rfl | hx
  ·exact hv
  ·exact h.v x (by simp [hx]), h.r⟩
theorem tk_one (x : List TV) (rs : List ValP) : List.take rs.length (List.drop (offE 1 rs.length) (x :: rs.map vT)) = rs.map vT := by
 unfold offE
 split
 ·rename_i h
  rw [h, List.take_zero, List.eq_nil_of_length_eq_zero h]; rfl
 ·rw [List.drop_one, List.tail_cons, List.take_of_length_le (by simp)]
def SpoiltD (bs : List Int) (x : Nat × Int × WorldP) : Prop := x.1 ≤ bs.length ∧ WoP x.2.2
set_option maxHeartbeats 8000000 in
set_option maxRecDepth 100000 in
theorem w141 (bs : List Int) (i0 : Nat) (h0 : Int) (g f : List Int) (ts : List TableP) (rs : List ValP) (hb : bs.length ≤ 2^40) (hi0 : i0 ≤ bs.length) (hW : WkP 450 (g, f, ts, rs)) : ∃ x : Nat × Int × WorldP, (SpoiltD bs x) ∧ Contract Try.prog true 141 [.own, .own] [curT bs i0 h0, worldO g f ts rs] [worldO x.2.2.1 x.2.2.2.1 x.2.2.2.2.1 x.2.2.2.2.2] [some (curT bs x.1 x.2.1), none, none, none, none] := by
 refine mk_contractE [some [(1, 0)], none, none, none, none] Try.func141 (c := Try.f141.body.get!) (by kernel_rfl) k141 r141 (of_decide_eq_true rfl) ?_
 have hgl := hW.gl
 have hfl := hW.fl
 have ht40 := hW.t.m
 have hWo := hW.wo (by omega)
 simp only at hgl hfl ht40
 unfold c141; unfold curT worldO; simp
 obtain ⟨⟨i1, h1, y1⟩, ⟨a1, b1, c1⟩, hC1⟩ := w142 bs i0 h0 6 hb hi0
 simp only at a1 b1 c1 hC1
 unfold curT at hC1
 refine callW_ms [.own, .ro] ?_
 simp
 refine callX_of hC1 (by simp) ?_
 have c1' := c1 (by omega)
 rcases ts with _ | ⟨⟨tc, tr, tv⟩, ts⟩
 ·have done : SpoiltD bs (i1, h1, g, f, [], rs) := ⟨a1, hWo⟩
  rcases (by omega : y1 = 0 ∨ y1 = 1 ∨ y1 = 2 ∨ y1 = 3 ∨ y1 = 4 ∨ y1 = 5) with rfl | rfl | rfl | rfl | rfl | rfl
  ·simp
   obtain ⟨⟨i2, h2, g2, f2⟩, hE, hC2⟩ := w181 bs i1 h1 g f hb a1 (by omega) (by omega)
   simp only at hC2
   unfold curT entsO at hC2
   refine callW_ms [.own, .own] ?_
   simp
   refine callX_of hC2 (by simp) ?_
   simp
   obtain ⟨a2, hg2, hf2⟩ := hE
   simp only at a2 hg2 hf2
   refine exK_of (i2, h2, g2, f2, [], rs) ⟨a2, ⟨by simp only; omega, by simp only; omega, hWo.n, hWo.c, hWo.v, hWo.r⟩⟩ ?_
   simp
  ·simp
   refine exK_of (i1, h1, g, f, [], rs) done ?_
   simp
  ·simp
   refine exK_of (i1, h1, g, f, [], rs) done ?_
   simp
  ·cases rs with
   | nil =>
    simp
    refine exK_of (i1, h1, g, f, [], []) done ?_
    simp
   | cons v rs =>
    simp
    refine ⟨by omega, ?_⟩
    rw [tk_one]
    have hr := hWo.r
    refine exK_of (i1, h1, g, f, [], rs) ⟨a1, ⟨hWo.g, hWo.f, hWo.n, hWo.c, hWo.v, by have := hr.1; simp at this ⊢; omega, fun x hx => hr.2 x (List.mem_cons_of_mem _ hx)⟩⟩ ?_
    simp
  ·simp
   refine exK_of (i1, h1, g, f, [], rs) done ?_
   simp
  ·simp
   refine exK_of (i1, h1, g, f, [], rs) done ?_
   simp
 ·have done : SpoiltD bs (i1, h1, g, f, (tc, tr, tv) :: ts, rs) := ⟨a1, hWo⟩
  have hT := hW.t.t (tc, tr, tv) (by simp)
  have hTc := hT.c
  have hTr := hT.r
  have hTs := hT.s
  simp only at hTc hTr hTs
  have hc0 := hWo.c _ List.mem_cons_self
  have hv0 := hWo.v _ List.mem_cons_self
  simp only at hc0 hv0
  simp only [List.length_cons] at ht40
  rcases (by omega : y1 = 0 ∨ y1 = 1 ∨ y1 = 2 ∨ y1 = 3 ∨ y1 = 4 ∨ y1 = 5) with rfl | rfl | rfl | rfl | rfl | rfl
  ·simp
   obtain ⟨⟨i2, h2, g2, f2⟩, hE, hC2⟩ := w181 bs i1 h1 g f hb a1 (by omega) (by omega)
   simp only at hC2
   unfold curT entsO at hC2
   refine callW_ms [.own, .own] ?_
   simp
   refine callX_of hC2 (by simp) ?_
   simp
   obtain ⟨a2, hg2, hf2⟩ := hE
   simp only at a2 hg2 hf2
   refine exK_of (i2, h2, g2, f2, (tc, tr, tv) :: ts, rs) ⟨a2, ⟨by simp only; omega, by simp only; omega, hWo.n, hWo.c, hWo.v, hWo.r⟩⟩ ?_
   simp
  ·cases tr with
   | nil =>
    simp
    refine exK_of (i1, h1, g, f, (tc, [], tv) :: ts, rs) done ?_
    simp
   | cons e tr =>
    simp
    refine exK_of (i1, h1, g, f, (tc, (e.1, IntKind.i64.wrap (e.2 + 1)) :: tr, tv) :: ts, rs) ⟨a1, hWo.hd ⟨by simp only; omega, by simpa using hc0.2.1, by simp only; omega, hc0.2.2.2⟩ hv0⟩ ?_
    simp
  ·simp [takeRows]
   refine ⟨by omega, by omega, ?_⟩
   refine exK_of (i1, h1, g, f, (tc, tr, tv) :: (ts ++ [(tc, [], [])]), rs) ⟨a1, ⟨hWo.g, hWo.f, by simp; omega, fun x hx => ?_, fun x hx => ?_, hWo.r⟩⟩ ?_
   ·rw [← List.cons_append] at hx
    rcases List.mem_append.1 hx with hx | hx
    ·exact hWo.c x hx
    ·rw [List.mem_singleton.1 hx]; exact ⟨by simp only; omega, by simp, by simp, fun v hv => by cases hv⟩
   ·rw [← List.cons_append] at hx
    rcases List.mem_append.1 hx with hx | hx
    ·exact hWo.v x hx
    ·rw [List.mem_singleton.1 hx]; exact fun v hv => by cases hv
   ·simp
  ·cases rs with
   | nil =>
    simp
    refine exK_of (i1, h1, g, f, (tc, tr, tv) :: ts, []) done ?_
    simp
   | cons v rs =>
    simp
    refine ⟨by omega, ?_⟩
    rw [tk_one]
    have hr := hWo.r
    refine exK_of (i1, h1, g, f, (tc, tr, tv) :: ts, rs) ⟨a1, ⟨hWo.g, hWo.f, hWo.n, hWo.c, hWo.v, by have := hr.1; simp at this ⊢; omega, fun x hx => hr.2 x (List.mem_cons_of_mem _ hx)⟩⟩ ?_
    simp
  ·cases tv with
   | nil =>
    simp
    refine exK_of (i1, h1, g, f, (tc, tr, []) :: ts, rs) done ?_
    simp
   | cons vs tv =>
    cases vs with
    | nil =>
     simp
     refine exK_of (i1, h1, g, f, (tc, tr, [] :: tv) :: ts, rs) done ?_
     simp
    | cons v vs =>
     simp
     obtain ⟨⟨i2, h2, v2⟩, ⟨a2, b2, c2⟩, hC2⟩ := w182 bs i1 h1 hb a1
     simp only at a2 b2 hC2
     unfold curT valV at hC2
     refine callW_ms [.own] ?_
     simp
     refine callX_of hC2 (by simp) ?_
     simp
     refine exK_of (i2, h2, g, f, (tc, tr, (v2 :: vs) :: tv) :: ts, rs) ⟨a2, hWo.hd ⟨by simp only; omega, by simp only; omega, by simpa using hc0.2.2.1, fun u hu => ?_⟩ fun u hu => ?_⟩ ?_
     ·rcases List.mem_cons.1 hu with rfl | hu
      ·have := hc0.2.2.2 (v :: vs) (by simp)
       simpa using this
      ·exact hc0.2.2.2 u (by simp [hu])
     ·rcases List.mem_cons.1 hu with rfl | hu
      ·intro x hx
       rcases List.mem_cons.1 hx with rfl | hx
       ·exact b2
       ·exact hv0 (v :: vs) (by simp) x (by simp [hx])
      ·exact hv0 u (by simp [hu])
     ·simp
  ·cases tr with
   | nil =>
    simp
    refine exK_of (i1, h1, g, f, (tc, [], tv) :: ts, rs) done ?_
    simp
   | cons e tr =>
    simp
    simp only [List.length_cons] at hTr
    refine ⟨by omega, ?_⟩
    refine exK_of (i1, h1, g, f, (tc, e :: (tr ++ [e]), tv) :: ts, rs) ⟨a1, hWo.hd ⟨by simp only; omega, by simp; omega, by simp only; omega, hc0.2.2.2⟩ hv0⟩ ?_
    simp
end Go.Proofs.YtmedelmfkciblaaT


namespace Go.Proofs.YtmedelmfkciblaaT
set_option linter.unusedVariables false
set_option linter.unusedSimpArgs false
open Go
def c80 : TCode := (.seq (.ops [⟨(some 4), 6, .box 3 (.c (.ag [(.sl true 2 []), (.sl true 2 []), (.sl true 2 [])])), none, []⟩, ⟨(some 5), 7, .box 4 (.c (.ag [(.sl true 1 []), (.sl true 1 []), (.sl true 3 []), (.sl true 4 [])])), none, []⟩])
 (.seq (.ops [⟨(some 8), 10, .mv (.t 0), none, []⟩, ⟨(some 9), 11, .call 137 [((.t 8), 3)], none, []⟩, ⟨(some 6), 8, .box 3 (.c (.ag [(.sl true 2 []), (.sl true 2 []), (.sl true 2 [])])), none, []⟩, ⟨none, 1001003, .store 3 (.t 6) (.t 9), none, []⟩])
 (.seq (.seq (.ops [⟨(some 10), 12, .load true 3 (.t 6), none, []⟩, ⟨(some 11), 13, .call 84 [((.t 10), 0)], none, []⟩, ⟨(some 12), 14, .un .not (.t 11), none, []⟩])
 (.cond (.t 12)
 (.seq (.draw [⟨(some 13), 15, .load true 3 (.t 6), none, []⟩, ⟨(some 14), 16, .mv (.t 0), none, []⟩, ⟨(some 15), 17, .call 139 [], none, [0, 1]⟩, ⟨(some 16), 18, .call 138 [((.t 14), 3), ((.t 15), 0), ((.c (.i .i64 3)), 0)], none, [0]⟩, ⟨none, 1003004, .store 3 (.t 4) (.t 13), none, []⟩, ⟨none, 1003005, .store 4 (.t 5) (.t 16), none, []⟩])
 .ret)
 .skip))
 (.seq (.draw [⟨(some 17), 19, .mv (.t 0), none, []⟩, ⟨(some 18), 20, .load true 3 (.t 6), none, []⟩, ⟨(some 19), 21, .mv (.t 1), none, []⟩, ⟨(some 20), 22, .call 140 [((.t 19), 0), ((.c (.i .i64 24)), 0)], none, [0, 1]⟩, ⟨(some 21), 23, .call 138 [((.t 17), 3), ((.t 18), 0), ((.t 20), 0)], none, []⟩, ⟨(some 7), 9, .box 4 (.c (.ag [(.sl true 1 []), (.sl true 1 []), (.sl true 3 []), (.sl true 4 [])])), none, [0, 1, 2, 3, 4]⟩, ⟨none, 1004006, .store 4 (.t 7) (.t 21), none, []⟩])
 (.seq (.seq (.ops [⟨(some 22), 24, .mv (.t 0), none, []⟩, ⟨(some 23), 25, .call 132 [((.t 22), 3), ((.c (.i .i64 6)), 0)], none, []⟩])
 (.cond (.t 23)
 (.ops [⟨(some 24), 26, .mv (.t 0), none, []⟩, ⟨(some 25), 27, .load true 4 (.t 7), none, []⟩, ⟨(some 26), 28, .call 141 [((.t 24), 3), ((.t 25), 0)], none, []⟩, ⟨none, 1006003, .store 4 (.t 7) (.t 26), none, []⟩])
 .skip))
 (.seq (.draw [⟨(some 27), 29, .load true 3 (.t 6), none, []⟩, ⟨(some 28), 30, .load true 4 (.t 7), none, []⟩, ⟨none, 1007002, .store 3 (.t 4) (.t 27), none, [1000000, 1]⟩, ⟨none, 1007003, .store 4 (.t 5) (.t 28), none, []⟩])
 .ret))))))
theorem k80 : compCode Try.prog Try.f80.ntmps Try.f80.body.get! = some c80 := by kernel_rfl
theorem r80 : resTmps Try.prog Try.f80.results.toList = some [.cell 4 true 3, .cell 5 true 4] := by kernel_rfl
abbrev RegP := DcP × DcP × DcP
def BothD (bs : List Int) (x : Nat × Int × RegP × WorldP) : Prop := x.1 ≤ bs.length ∧ (smallD x.2.2.1.1 ∧ smallD x.2.2.1.2.1 ∧ smallD x.2.2.1.2.2) ∧ WoP x.2.2.2
set_option maxHeartbeats 8000000 in
set_option maxRecDepth 100000 in
theorem w80 (bs : List Int) (i0 : Nat) (h0 : Int) (cs : List Int) (hb : bs.length ≤ 2^40) (hi0 : i0 ≤ bs.length) (hcs : cs.length ≤ 2^40) : ∃ x : Nat × Int × RegP × WorldP, (BothD bs x) ∧ Contract Try.prog true 80 [.own, .ro] [curT bs i0 h0, .sl false 1 (cs.map uT)] [regO x.2.2.1.1 x.2.2.1.2.1 x.2.2.1.2.2, worldO x.2.2.2.1 x.2.2.2.2.1 x.2.2.2.2.2.1 x.2.2.2.2.2.2] [some (curT bs x.1 x.2.1)] := by
 refine mk_contractE [some [(1, 0)]] Try.func80 (c := Try.f80.body.get!) (by kernel_rfl) k80 r80 (of_decide_eq_true rfl) ?_
 unfold c80; unfold curT regO worldO; simp
 obtain ⟨⟨i1, h1, c, r, d⟩, ⟨a1, sc, sr, sd⟩, hC1⟩ := w137 bs i0 h0 hb hi0
 simp only at a1 sc sr sd hC1
 unfold curT regO at hC1
 refine callW_ms [.own] ?_
 simp
 refine callX_of hC1 (by simp) ?_
 simp
 have hR := w84 c r d (by have := sc.1; omega) (by have := sr.1; omega) (by have := sd.1; omega)
 unfold regR at hR
 refine callW_ms [.ro] ?_
 simp
 refine callX_of hR (by simp) ?_
 cases decide (RegOkP c r d) with
 | false =>
  simp
  obtain ⟨⟨c2, r2, d2⟩, ⟨_, sc2, sr2, sd2⟩, hC2⟩ := w139
  simp only at sc2 sr2 sd2 hC2
  unfold regO at hC2
  refine callW_ms [] ?_
  simp
  refine callX_of hC2 (by simp) ?_
  simp
  obtain ⟨⟨i5, h5, w5⟩, ⟨a5, hw⟩, hC5⟩ := w138 bs i1 h1 c2 r2 d2 3 hb a1 sc2.1 sr2.1 sd2.1 (by omega)
  simp only at a5 hw hC5
  unfold curT worldO regO at hC5
  refine callW_ms [.own, .own, .ro] ?_
  simp
  refine callX_of hC5 (by simp) ?_
  simp
  refine exK_of (i5, h5, (c, r, d), w5) ⟨a5, ⟨sc, sr, sd⟩, hw.wo (by omega)⟩ ?_
  simp
 | true =>
  simp
  have hS := w140 cs 24 hcs
  obtain ⟨N, hN, hN24⟩ : ∃ N : Nat, (if (24 : Int) < 2 + (cs.length : Int).tdiv 20 then 24 else 2 + (cs.length : Int).tdiv 20) = (N : Int) ∧ N ≤ 24 := by
   have e1 : (cs.length : Int).tdiv 20 = ((cs.length : Int) / 20) := Int.tdiv_eq_ediv_of_nonneg (by omega)
   rw [e1]
   split
   ·exact ⟨24, rfl, by omega⟩
   ·exact ⟨(2 + (cs.length : Int) / 20).toNat, by omega, by omega⟩
  rw [hN] at hS
  refine callW_ms [.ro, .ro] ?_
  simp
  refine callX_of hS (by simp) ?_
  simp
  obtain ⟨⟨i2, h2, w2⟩, ⟨a2, hw2⟩, hC2⟩ := w138 bs i1 h1 c r d N hb a1 sc.1 sr.1 sd.1 (by omega)
  simp only at a2 hw2 hC2
  unfold curT worldO regO at hC2
  refine callW_ms [.own, .own, .ro] ?_
  simp
  refine callX_of hC2 (by simp) ?_
  simp
  obtain ⟨⟨i3, h3, y3⟩, a3, hC3⟩ := w132 bs i2 h2 6 hb a2
  simp only at a3 hC3
  unfold curT at hC3
  refine callW_ms [.own, .ro] ?_
  simp
  refine callX_of hC3 (by simp) ?_
  cases y3 with
  | false =>
   simp
   refine exK_of (i3, h3, (c, r, d), w2) ⟨a3, ⟨sc, sr, sd⟩, hw2.wo (by omega)⟩ ?_
   simp
  | true =>
   simp
   obtain ⟨⟨i4, h4, w4⟩, ⟨a4, hw4⟩, hC4⟩ := w141 bs i3 h3 w2.1 w2.2.1 w2.2.2.1 w2.2.2.2 hb a3 (hw2.mono (by omega))
   simp only at a4 hw4 hC4
   unfold curT worldO at hC4
   refine callW_ms [.own, .own] ?_
   simp
   refine callX_of hC4 (by simp) ?_
   simp
   refine exK_of (i4, h4, (c, r, d), w4) ⟨a4, ⟨sc, sr, sd⟩, hw4⟩ ?_
   simp
end Go.Proofs.YtmedelmfkciblaaT


namespace Go.Proofs.YtmedelmfkciblaaT
set_option linter.unusedVariables false
set_option linter.unusedSimpArgs false
open Go
def c81 : TCode := (.seq (.ops [⟨(some 5), 7, .box 3 (.t 1), none, []⟩, ⟨(some 6), 8, .box 4 (.t 2), none, []⟩, ⟨(some 8), 10, .mv (.c (.sl true 1 [])), none, []⟩])
 (.seq (.ops [⟨(some 15), 17, .bslice 1 0 [(.sl true 9 [])] [], none, []⟩, ⟨(some 9), 11, .mv (.t 15), none, []⟩])
 (.seq (.ops [⟨(some 16), 18, .mv (.t 0), none, []⟩, ⟨(some 17), 19, .call 142 [((.t 16), 3), ((.c (.i .i64 4)), 0)], none, []⟩, ⟨(some 10), 12, .mv (.t 17), none, []⟩])
 (.seq (.seq (.ops [⟨(some 11), 13, .mv (.c (.i .i64 0)), none, []⟩])
 (.block 0 (.loop (.seq (.seq (.ops [⟨(some 18), 20, .mv (.t 11), none, []⟩, ⟨(some 19), 21, .mv (.t 10), none, []⟩, ⟨(some 20), 22, .bin .lss (.t 18) (.t 19), none, []⟩])
 (.cond (.t 20)
 .skip
 (.exit 0)))
 (.seq (.block 1 (.seq (.ops [⟨(some 23), 25, .bslice 9 0 [(.i .i64 0), (.i .i64 0), (.i .i64 0), (.i .i64 0), (.i .i64 0), (.i .i64 0), (.f 0), (.f 0), (.sl true 5 [])] [], none, []⟩, ⟨(some 12), 14, .mv (.t 23), none, []⟩])
 (.seq (.ops [⟨(some 24), 26, .mv (.t 0), none, []⟩, ⟨(some 25), 27, .mv (.t 3), none, []⟩, ⟨(some 26), 28, .bin .add (.t 25) (.c (.i .i64 1)), none, []⟩, ⟨(some 27), 29, .call 142 [((.t 24), 3), ((.t 26), 0)], none, []⟩, ⟨(some 13), 15, .mv (.t 27), none, []⟩])
 (.seq (.seq (.ops [⟨(some 28), 30, .mv (.t 0), none, []⟩, ⟨(some 29), 31, .call 132 [((.t 28), 3), ((.c (.i .i64 30)), 0)], none, []⟩])
 (.cond (.t 29)
 (.ops [⟨(some 30), 32, .mv (.t 0), none, []⟩, ⟨(some 31), 33, .call 142 [((.t 30), 3), ((.c (.i .i64 2)), 0)], none, []⟩, ⟨(some 32), 34, .bin .add (.c (.i .i64 60)) (.t 31), none, []⟩, ⟨(some 13), 15, .mv (.t 32), none, []⟩])
 .skip))
 (.seq (.seq (.ops [⟨(some 14), 16, .mv (.c (.i .i64 0)), none, []⟩])
 (.block 2 (.loop (.seq (.seq (.ops [⟨(some 33), 35, .mv (.t 14), none, []⟩, ⟨(some 34), 36, .mv (.t 13), none, []⟩, ⟨(some 35), 37, .bin .lss (.t 33) (.t 34), none, []⟩])
 (.cond (.t 35)
 .skip
 (.exit 2)))
 (.seq (.block 3 (.ops [⟨(some 38), 40, .mv (.t 12), none, []⟩, ⟨(some 39), 41, .mv (.t 0), none, []⟩, ⟨(some 40), 42, .load true 3 (.t 5), none, []⟩, ⟨(some 41), 43, .load true 4 (.t 6), none, []⟩, ⟨(some 42), 44, .call 143 [((.t 39), 3), ((.t 40), 0), ((.t 41), 0)], none, []⟩, ⟨(some 43), 45, .bslice 9 1 [(.i .i64 0), (.i .i64 0), (.i .i64 0), (.i .i64 0), (.i .i64 0), (.i .i64 0), (.f 0), (.f 0), (.sl true 5 [])] [(0, (.t 42))], none, []⟩, ⟨(some 44), 46, .app 9 88 (.t 38) (.t 43), none, []⟩, ⟨(some 12), 14, .mv (.t 44), none, []⟩]))
 (.ops [⟨(some 36), 38, .mv (.t 14), none, []⟩, ⟨(some 37), 39, .bin .add (.t 36) (.c (.i .i64 1)), none, []⟩, ⟨(some 14), 16, .mv (.t 37), none, []⟩]))))))
 (.ops [⟨(some 45), 47, .mv (.t 9), none, []⟩, ⟨(some 46), 48, .mv (.t 12), none, []⟩, ⟨(some 47), 49, .bslice 1 1 [(.sl true 9 [])] [(0, (.t 46))], none, []⟩, ⟨(some 48), 50, .app 1 24 (.t 45) (.t 47), none, []⟩, ⟨(some 9), 11, .mv (.t 48), none, []⟩]))))))
 (.ops [⟨(some 21), 23, .mv (.t 11), none, []⟩, ⟨(some 22), 24, .bin .add (.t 21) (.c (.i .i64 1)), none, []⟩, ⟨(some 11), 13, .mv (.t 22), none, []⟩]))))))
 (.seq (.seq (.ops [⟨(some 49), 51, .mv (.t 0), none, []⟩, ⟨(some 50), 52, .call 132 [((.t 49), 3), ((.c (.i .i64 25)), 0)], none, []⟩])
 (.cond (.t 50)
 (.block 4 (.loop (.seq (.seq (.ops [⟨(some 51), 53, .mv (.t 9), none, []⟩, ⟨(some 52), 54, .len false (.t 51), none, []⟩, ⟨(some 53), 55, .mv (.t 0), none, []⟩, ⟨(some 54), 56, .call 142 [((.t 53), 3), ((.c (.i .i64 2)), 0)], none, []⟩, ⟨(some 55), 57, .bin .add (.c (.i .i64 32)) (.t 54), none, []⟩, ⟨(some 56), 58, .bin .lss (.t 52) (.t 55), none, []⟩])
 (.cond (.t 56)
 .skip
 (.exit 4)))
 (.block 5 (.ops [⟨(some 57), 59, .mv (.t 9), none, []⟩, ⟨(some 58), 60, .bslice 9 0 [(.i .i64 0), (.i .i64 0), (.i .i64 0), (.i .i64 0), (.i .i64 0), (.i .i64 0), (.f 0), (.f 0), (.sl true 5 [])] [], none, []⟩, ⟨(some 59), 61, .bslice 1 1 [(.sl true 9 [])] [(0, (.t 58))], none, []⟩, ⟨(some 60), 62, .app 1 24 (.t 57) (.t 59), none, []⟩, ⟨(some 9), 11, .mv (.t 60), none, []⟩])))))
 .skip))
 (.seq (.ops [⟨(some 61), 63, .mv (.t 9), none, []⟩, ⟨(some 8), 10, .mv (.t 61), none, []⟩])
 .ret))))))
theorem k81 : compCode Try.prog Try.f81.ntmps Try.f81.body.get! = some c81 := by kernel_rfl
theorem r81 : resTmps Try.prog Try.f81.results.toList = some [.tmp 8] := by kernel_rfl
def c36 : TCode := (.seq (.ops [⟨(some 2), 4, .mv (.c (.sl true 9 [])), none, []⟩])
 (.seq (.ops [⟨(some 7), 9, .mv (.t 0), none, []⟩, ⟨(some 8), 10, .call 71 [((.t 7), 0)], none, []⟩, ⟨(some 3), 5, .mv (.t 8), none, []⟩])
 (.seq (.ops [⟨(some 10), 12, .mv (.t 3), none, []⟩, ⟨(some 11), 13, .mv (.t 0), none, []⟩, ⟨(some 12), 14, .call 80 [((.t 10), 3), ((.t 11), 0)], none, []⟩, ⟨(some 9), 11, .mv (.t 12), none, []⟩, ⟨(some 13), 15, .ext 0 (.t 9), none, []⟩, ⟨(some 14), 16, .ext 1 (.t 9), none, []⟩, ⟨(some 4), 6, .box 3 (.c (.ag [(.sl true 2 []), (.sl true 2 []), (.sl true 2 [])])), none, []⟩, ⟨(some 5), 7, .box 4 (.c (.ag [(.sl true 1 []), (.sl true 1 []), (.sl true 3 []), (.sl true 4 [])])), none, []⟩, ⟨none, 1002008, .store 3 (.t 4) (.t 13), none, []⟩, ⟨none, 1002009, .store 4 (.t 5) (.t 14), none, []⟩])
 (.seq (.ops [⟨(some 15), 17, .mv (.t 3), none, []⟩, ⟨(some 16), 18, .load true 3 (.t 4), none, []⟩, ⟨(some 17), 19, .load true 4 (.t 5), none, []⟩, ⟨(some 18), 20, .call 81 [((.t 15), 3), ((.t 16), 0), ((.t 17), 0), ((.c (.i .i64 8)), 0)], none, []⟩, ⟨(some 6), 8, .mv (.t 18), none, []⟩])
 (.seq (.seq (.ops [⟨(some 19), 21, .mv (.t 6), none, []⟩, ⟨(some 20), 22, .len false (.t 19), none, []⟩, ⟨(some 21), 23, .bin .eql (.t 20) (.c (.i .i64 0)), none, []⟩])
 (.cond (.t 21)
 (.seq (.ops [⟨(some 2), 4, .mv (.c (.sl true 9 [])), none, []⟩])
 .ret)
 .skip))
 (.seq (.ops [⟨(some 22), 24, .mv (.t 6), none, []⟩, ⟨(some 23), 25, .iaddr 1 (.t 22) (.c (.i .i64 0)), none, []⟩, ⟨(some 24), 26, .load false 1 (.t 23), none, []⟩, ⟨(some 2), 4, .mv (.t 24), none, []⟩])
 .ret))))))
theorem k36 : compCode Try.prog Try.f36.ntmps Try.f36.body.get! = some c36 := by kernel_rfl
theorem r36 : resTmps Try.prog Try.f36.results.toList = some [.tmp 2] := by kernel_rfl
def c37 : TCode := (.seq (.ops [⟨(some 2), 4, .mv (.c (.sl true 9 [])), none, []⟩])
 (.seq (.ops [⟨(some 7), 9, .mv (.t 0), none, []⟩, ⟨(some 8), 10, .call 71 [((.t 7), 0)], none, []⟩, ⟨(some 3), 5, .mv (.t 8), none, []⟩])
 (.seq (.ops [⟨(some 10), 12, .mv (.t 3), none, []⟩, ⟨(some 11), 13, .mv (.t 0), none, []⟩, ⟨(some 12), 14, .call 80 [((.t 10), 3), ((.t 11), 0)], none, []⟩, ⟨(some 9), 11, .mv (.t 12), none, []⟩, ⟨(some 13), 15, .ext 0 (.t 9), none, []⟩, ⟨(some 14), 16, .ext 1 (.t 9), none, []⟩, ⟨(some 4), 6, .box 3 (.c (.ag [(.sl true 2 []), (.sl true 2 []), (.sl true 2 [])])), none, []⟩, ⟨(some 5), 7, .box 4 (.c (.ag [(.sl true 1 []), (.sl true 1 []), (.sl true 3 []), (.sl true 4 [])])), none, []⟩, ⟨none, 1002008, .store 3 (.t 4) (.t 13), none, []⟩, ⟨none, 1002009, .store 4 (.t 5) (.t 14), none, []⟩])
 (.seq (.ops [⟨(some 15), 17, .mv (.t 3), none, []⟩, ⟨(some 16), 18, .load true 3 (.t 4), none, []⟩, ⟨(some 17), 19, .load true 4 (.t 5), none, []⟩, ⟨(some 18), 20, .call 81 [((.t 15), 3), ((.t 16), 0), ((.t 17), 0), ((.c (.i .i64 8)), 0)], none, []⟩, ⟨(some 6), 8, .mv (.t 18), none, []⟩])
 (.seq (.seq (.ops [⟨(some 19), 21, .mv (.t 6), none, []⟩, ⟨(some 20), 22, .len false (.t 19), none, []⟩, ⟨(some 21), 23, .bin .eql (.t 20) (.c (.i .i64 0)), none, []⟩])
 (.cond (.t 21)
 (.seq (.ops [⟨(some 2), 4, .mv (.c (.sl true 9 [])), none, []⟩])
 .ret)
 .skip))
 (.seq (.ops [⟨(some 22), 24, .mv (.t 6), none, []⟩, ⟨(some 23), 25, .iaddr 1 (.t 22) (.c (.i .i64 0)), none, []⟩, ⟨(some 24), 26, .load false 1 (.t 23), none, []⟩, ⟨(some 2), 4, .mv (.t 24), none, []⟩])
 .ret))))))
theorem k37 : compCode Try.prog Try.f37.ntmps Try.f37.body.get! = some c37 := by kernel_rfl
theorem r37 : resTmps Try.prog Try.f37.results.toList = some [.tmp 2] := by kernel_rfl
abbrev BufP := List CmdP
@[simp] def bfO (b : BufP) : List TV := [.sl true 9 (b.map cmO)]
def BufOk (b : BufP) : Prop := ∀ x ∈ b, x.2.2.2.2.length ≤ 8
theorem BufOk.nil : BufOk [] := fun x h => by cases h
theorem BufOk.snoc {b : BufP} {x : CmdP} (h : BufOk b) (hx : x.2.2.2.2.length ≤ 8) : BufOk (b ++ [x]) := fun y hy => by
 rcases List.mem_append.1 hy with hy | hy
 ·exact h y hy
 ·rw [List.mem_singleton.1 hy]; exact hx
def BufsOk (l : List BufP) : Prop := ∀ b ∈ l, b.length ≤ 61 ∧ BufOk b
theorem BufsOk.nil : BufsOk [] := fun x h => by cases h
theorem BufsOk.snoc {l : List BufP} {b : BufP} (h : BufsOk l) (hl : b.length ≤ 61) (hb : BufOk b) : BufsOk (l ++ [b]) := fun y hy => by
 rcases List.mem_append.1 hy with hy | hy
 ·exact h y hy
 ·rw [List.mem_singleton.1 hy]; exact ⟨hl, hb⟩
@[simp] theorem noROLL_bfO (l : List BufP) : noROLL (l.map bfO) = true := noROLL_map (fun b => by simp [noROL, noRO]) l
set_option maxHeartbeats 8000000 in
set_option maxRecDepth 100000 in
theorem w81 (bs : List Int) (i0 : Nat) (h0 : Int) (c r d : DcP) (g f : List Int) (ts : List TableP) (rs : List ValP) (hb : bs.length ≤ 2^40) (hi0 : i0 ≤ bs.length) (hc : c.length ≤ 20) (hg : g.length ≤ 2^36) (hf : f.length ≤ 2^36) : ∃ x : List BufP, (BufsOk x) ∧ Contract Try.prog false 81 [.own, .own, .own, .ro] [curT bs i0 h0, regO c r d, worldO g f ts rs, .i .i64 8] [.sl true 1 (x.map bfO)] [none, none, none, none, none, none, none, none] := by
 refine mk_contractE [none, none, none, none, none, none, none, none] Try.func81 (c := Try.f81.body.get!) (by kernel_rfl) k81 r81 (of_decide_eq_true rfl) ?_
 unfold c81; unfold curT worldO regO; simp
 obtain ⟨⟨i1, h1, n⟩, ⟨a1, b1, c1⟩, hC1⟩ := w142 bs i0 h0 4 hb hi0
 simp only at a1 b1 c1 hC1
 unfold curT at hC1
 refine callW_ms [.own, .ro] ?_
 simp
 refine callX_of hC1 (by simp) ?_
 simp
 have c1' := c1 (by omega)
 obtain ⟨n, rfl⟩ := Int.eq_ofNat_of_zero_le b1
 refine twp_forR n (fun j s => ∃ (i : Nat), i ≤ bs.length ∧ ∃ (h : Int) (L : List BufP), (BufsOk L ∧ L.length = j) ∧ s.t 0 = .pt [(1, 0)] 0 0 ∧ s.t 3 = .i .i64 8 ∧ s.t 5 = .pt [(7, 0)] 0 0 ∧ s.t 6 = .pt [(8, 0)] 0 0 ∧ s.t 9 = .rf [(50, 0)] 0 L.length ∧ s.t 10 = .i .i64 n ∧ s.t 11 = .i .i64 j ∧ s.H = lk [(1, [.po true [.sl false 1 (bs.map uT), .i .i64 i, .i .i64 h], .junk, .junk, .junk, .junk, .junk, .junk, .junk]), (7, [.po true [.sl true 2 (c.map dT), .sl true 2 (r.map dT), .sl true 2 (d.map dT)]]), (8, [.po true [.sl true 1 (g.map iT), .sl true 1 (f.map iT), .sl true 3 (ts.map tbO), .sl true 4 (rs.map vT)]]), (50, [.sl true 1 (L.map bfO)])]) [25, 46, 49] [(17, 50)] (by simp) (by simp) ?_ ?_
 ·refine ⟨i1, a1, h1, [], ⟨BufsOk.nil, rfl⟩, ?_⟩
  simp [renO]
 ·rintro j s hj ⟨i, hi, h, L, ⟨hL, hLl⟩, q0, q3, q5, q6, q9, q10, q11, qH⟩
  rw [nf_of qH]
  have hw : IntKind.i64.wrap ((j : Int) + 1) = j + 1 := wrap_id (by omega) (by omega)
  cases hb9 : decide (j < n)
  ·have hge := of_decide_eq_false hb9
   simp [q0, q3, q5, q6, q9, q10, q11, hb9]
   obtain ⟨⟨i5, h5, y5⟩, a5, hC5⟩ := w132 bs i h 25 hb hi
   simp only at a5 hC5
   unfold curT at hC5
   refine callW_ms [.own, .ro] ?_
   simp [q0, q3, q5, q6, q9, q10, q11]
   refine callX_of hC5 (by simp) ?_
   cases y5 with
   | false =>
    simp [q0, q3, q5, q6, q9, q10, q11]
    refine exK_of L hL ?_
    simp [q0, q3, q5, q6, q9, q10, q11]
   | true =>
    simp [q0, q3, q5, q6, q9, q10, q11]
    refine twp_forR 40 (fun k s => ∃ (i : Nat), i ≤ bs.length ∧ ∃ (h : Int) (L : List BufP), (BufsOk L ∧ L.length = n + k ∧ L.length ≤ 33) ∧ s.t 0 = .pt [(1, 0)] 0 0 ∧ s.t 3 = .i .i64 8 ∧ s.t 5 = .pt [(7, 0)] 0 0 ∧ s.t 6 = .pt [(8, 0)] 0 0 ∧ s.t 9 = .rf [(62, 0)] 0 L.length ∧ s.H = lk [(1, [.po true [.sl false 1 (bs.map uT), .i .i64 i, .i .i64 h], .junk, .junk, .junk, .junk, .junk, .junk, .junk]), (7, [.po true [.sl true 2 (c.map dT), .sl true 2 (r.map dT), .sl true 2 (d.map dT)]]), (8, [.po true [.sl true 1 (g.map iT), .sl true 1 (f.map iT), .sl true 3 (ts.map tbO), .sl true 4 (rs.map vT)]]), (62, [.sl true 1 (L.map bfO)])]) [60, 61] [(50, 62)] (by simp) (by simp) ?_ ?_
    ·refine ⟨i5, a5, h5, L, ⟨hL, by omega, by omega⟩, ?_⟩
     simp [q0, q3, q5, q6, q9, q10, q11, renO]
    ·rintro k s hk ⟨i, hi, h, L, ⟨hL, hLl, hLm⟩, q0, q3, q5, q6, q9, qH⟩
     rw [nf_of qH]
     simp [q0, q3, q5, q6, q9]
     obtain ⟨⟨i6, h6, y6⟩, ⟨a6, b6, c6'⟩, hC6⟩ := w142 bs i h 2 hb hi
     simp only at a6 b6 c6' hC6
     unfold curT at hC6
     refine callW_ms [.own, .ro] ?_
     simp [q0, q3, q5, q6, q9]
     refine callX_of hC6 (by simp) ?_
     have c6'' := c6' (by omega)
     have hw32 : IntKind.i64.wrap (32 + y6) = 32 + y6 := wrap_id (by omega) (by omega)
     cases hb8 : decide ((L.length : Int) < 32 + y6)
     ·simp [q0, q3, q5, q6, q9, hw32, hb8]
      refine exK_of L hL ?_
      simp [q0, q3, q5, q6, q9]
     ·have hlt := of_decide_eq_true hb8
      simp [q0, q3, q5, q6, q9, hw32, hb8, takeRows, forK]
      refine ⟨by omega, by omega, i6, a6, h6, L ++ [[]], ⟨hL.snoc (by simp) BufOk.nil, by simp; omega, by simp; omega⟩, ?_⟩
      simp [renO]
  ·have hlt := of_decide_eq_true hb9
   have e9 : IntKind.i64.wrap 9 = 9 := by decide
   simp [q0, q3, q5, q6, q9, q10, q11, hb9, e9]
   obtain ⟨⟨i2, h2, m⟩, ⟨a2, b2, c2⟩, hC2⟩ := w142 bs i h 9 hb hi
   simp only at a2 b2 c2 hC2
   unfold curT at hC2
   refine callW_ms [.own, .ro] ?_
   simp [q0, q3, q5, q6, q9, q10, q11]
   refine callX_of hC2 (by simp) ?_
   simp [q0, q3, q5, q6, q9, q10, q11]
   have c2' := c2 (by omega)
   obtain ⟨⟨i3, h3, y3⟩, a3, hC3⟩ := w132 bs i2 h2 30 hb a2
   simp only at a3 hC3
   unfold curT at hC3
   refine callW_ms [.own, .ro] ?_
   simp [q0, q3, q5, q6, q9, q10, q11]
   refine callX_of hC3 (by simp) ?_
   cases y3 with
   | false =>
    obtain ⟨m, rfl⟩ := Int.eq_ofNat_of_zero_le b2
    simp [q0, q3, q5, q6, q9, q10, q11]
    refine twp_forR m (fun k s => ∃ (i : Nat), i ≤ bs.length ∧ ∃ (h : Int) (B : List CmdP), (BufOk B ∧ B.length = k) ∧ s.t 0 = .pt [(1, 0)] 0 0 ∧ s.t 3 = .i .i64 8 ∧ s.t 5 = .pt [(7, 0)] 0 0 ∧ s.t 6 = .pt [(8, 0)] 0 0 ∧ s.t 9 = .rf [(50, 0)] 0 L.length ∧ s.t 10 = .i .i64 n ∧ s.t 11 = .i .i64 j ∧ s.t 12 = .rf [(46, 0)] 0 B.length ∧ s.t 13 = .i .i64 (m : Nat) ∧ s.t 14 = .i .i64 k ∧ s.H = lk [(1, [.po true [.sl false 1 (bs.map uT), .i .i64 i, .i .i64 h], .junk, .junk, .junk, .junk, .junk, .junk, .junk]), (7, [.po true [.sl true 2 (c.map dT), .sl true 2 (r.map dT), .sl true 2 (d.map dT)]]), (8, [.po true [.sl true 1 (g.map iT), .sl true 1 (f.map iT), .sl true 3 (ts.map tbO), .sl true 4 (rs.map vT)]]), (50, [.sl true 1 (L.map bfO)]), (46, [.sl true 9 (B.map cmO)])]) [44, 45] [(25, 46)] (by simp) (by simp) ?_ ?_
    ·refine ⟨i3, a3, h3, [], ⟨BufOk.nil, rfl⟩, ?_⟩
     simp [q0, q3, q5, q6, q9, q10, q11, renO]
    ·rintro k s hk ⟨i, hi, h, B, ⟨hB, hBl⟩, q0, q3, q5, q6, q9, q10, q11, q12, q13, q14, qH⟩
     rw [nf_of qH]
     have hwk : IntKind.i64.wrap ((k : Int) + 1) = k + 1 := wrap_id (by omega) (by omega)
     cases hb8 : decide (k < m)
     ·have hge2 := of_decide_eq_false hb8
      simp [q0, q3, q5, q6, q9, q10, q11, q12, q13, q14, hb8, takeRows, hw, forK]
      refine ⟨by omega, by omega, i, hi, h, L ++ [B], ⟨hL.snoc (by omega) hB, by simp; omega⟩, ?_⟩
      simp [renO]
     ·have hlt := of_decide_eq_true hb8
      simp [q0, q3, q5, q6, q9, q10, q11, q12, q13, q14, hb8]
      obtain ⟨⟨i6, h6, x6⟩, ⟨a6, b6⟩, hC6⟩ := w143 bs i h c r d g f ts rs hb hi hc hg hf
      simp only at a6 b6 hC6
      unfold curT regO worldO cmdO at hC6
      refine callW_ms [.own, .own, .own] ?_
      simp [q0, q3, q5, q6, q9, q10, q11, q12, q13, q14]
      refine callX_of hC6 (by simp) ?_
      simp [q0, q3, q5, q6, q9, q10, q11, q12, q13, q14, hwk, forK, takeRows]
      refine ⟨by omega, by omega, i6, a6, h6, B ++ [x6], ⟨hB.snoc b6, by simp; omega⟩, ?_⟩
      simp [renO]
   | true =>
    simp [q0, q3, q5, q6, q9, q10, q11]
    obtain ⟨⟨i4, h4, y4⟩, ⟨a4, b4, c4⟩, hC4⟩ := w142 bs i3 h3 2 hb a3
    simp only at a4 b4 c4 hC4
    unfold curT at hC4
    refine callW_ms [.own, .ro] ?_
    simp [q0, q3, q5, q6, q9, q10, q11]
    refine callX_of hC4 (by simp) ?_
    have c4' := c4 (by omega)
    obtain ⟨M, hM, hM61⟩ : ∃ M : Nat, IntKind.i64.wrap (60 + y4) = (M : Int) ∧ M ≤ 61 := ⟨(60 + y4).toNat, by rw [wrap_id (by omega) (by omega)]; omega, by omega⟩
    simp [q0, q3, q5, q6, q9, q10, q11, hM]
    refine twp_forR M (fun k s => ∃ (i : Nat), i ≤ bs.length ∧ ∃ (h : Int) (B : List CmdP), (BufOk B ∧ B.length = k) ∧ s.t 0 = .pt [(1, 0)] 0 0 ∧ s.t 3 = .i .i64 8 ∧ s.t 5 = .pt [(7, 0)] 0 0 ∧ s.t 6 = .pt [(8, 0)] 0 0 ∧ s.t 9 = .rf [(50, 0)] 0 L.length ∧ s.t 10 = .i .i64 n ∧ s.t 11 = .i .i64 j ∧ s.t 12 = .rf [(46, 0)] 0 B.length ∧ s.t 13 = .i .i64 (M : Nat) ∧ s.t 14 = .i .i64 k ∧ s.H = lk [(1, [.po true [.sl false 1 (bs.map uT), .i .i64 i, .i .i64 h], .junk, .junk, .junk, .junk, .junk, .junk, .junk]), (7, [.po true [.sl true 2 (c.map dT), .sl true 2 (r.map dT), .sl true 2 (d.map dT)]]), (8, [.po true [.sl true 1 (g.map iT), .sl true 1 (f.map iT), .sl true 3 (ts.map tbO), .sl true 4 (rs.map vT)]]), (50, [.sl true 1 (L.map bfO)]), (46, [.sl true 9 (B.map cmO)])]) [44, 45] [(25, 46)] (by simp) (by simp) ?_ ?_
    ·refine ⟨i4, a4, h4, [], ⟨BufOk.nil, rfl⟩, ?_⟩
     simp [q0, q3, q5, q6, q9, q10, q11, renO]
    ·rintro k s hk ⟨i, hi, h, B, ⟨hB, hBl⟩, q0, q3, q5, q6, q9, q10, q11, q12, q13, q14, qH⟩
     rw [nf_of qH]
     have hwk : IntKind.i64.wrap ((k : Int) + 1) = k + 1 := wrap_id (by omega) (by omega)
     cases hb8 : decide (k < M)
     ·have hge2 := of_decide_eq_false hb8
      simp [q0, q3, q5, q6, q9, q10, q11, q12, q13, q14, hb8, takeRows, hw, forK]
      refine ⟨by omega, by omega, i, hi, h, L ++ [B], ⟨hL.snoc (by omega) hB, by simp; omega⟩, ?_⟩
      simp [renO]
     ·have hlt := of_decide_eq_true hb8
      simp [q0, q3, q5, q6, q9, q10, q11, q12, q13, q14, hb8]
      obtain ⟨⟨i6, h6, x6⟩, ⟨a6, b6⟩, hC6⟩ := w143 bs i h c r d g f ts rs hb hi hc hg hf
      simp only at a6 b6 hC6
      unfold curT regO worldO cmdO at hC6
      refine callW_ms [.own, .own, .own] ?_
      simp [q0, q3, q5, q6, q9, q10, q11, q12, q13, q14]
      refine callX_of hC6 (by simp) ?_
      simp [q0, q3, q5, q6, q9, q10, q11, q12, q13, q14, hwk, forK, takeRows]
      refine ⟨by omega, by omega, i6, a6, h6, B ++ [x6], ⟨hB.snoc b6, by simp; omega⟩, ?_⟩
      simp [renO]
set_option maxHeartbeats 4000000 in
set_option maxRecDepth 100000 in
theorem w36 (bs : List Int) (hb : bs.length ≤ 2^40) : ∃ x : BufP, (x.length ≤ 61 ∧ BufOk x) ∧ Contract Try.prog false 36 [.ro] [.sl false 1 (bs.map uT)] [.sl true 9 (x.map cmO)] [] := by
 refine mk_contractE [] Try.func36 (c := Try.f36.body.get!) (by kernel_rfl) k36 r36 (of_decide_eq_true rfl) ?_
 unfold c36; simp
 obtain ⟨h0, -, hC0⟩ := w71 bs hb
 unfold curT at hC0
 refine callW_ms [.ro] ?_
 simp
 refine callX_of hC0 (by simp) ?_
 simp
 obtain ⟨⟨i1, h1, ⟨c, r, d⟩, w⟩, ⟨a1, ⟨sc, sr, sd⟩, hw⟩, hC1⟩ := w80 bs 0 h0 bs hb (by omega) hb
 simp only at a1 sc sr sd hw hC1
 unfold curT regO worldO at hC1
 refine callW_ms [.own, .ro] ?_
 simp
 refine callX_of hC1 (by simp) ?_
 simp
 have hwg := hw.g
 have hwf := hw.f
 obtain ⟨L, hL, hC2⟩ := w81 bs i1 h1 c r d w.1 w.2.1 w.2.2.1 w.2.2.2 hb a1 sc.1 (by omega) (by omega)
 unfold curT regO worldO at hC2
 refine callW_ms [.own, .own, .own, .ro] ?_
 simp
 refine callX_of hC2 (by simp) ?_
 simp
 cases L with
 | nil =>
  simp
  refine exK_of [] ⟨by simp, BufOk.nil⟩ ?_
  simp
 | cons b L =>
  have h := hL b (by simp)
  have hne : ¬ ((L.length : Int) + 1 = 0) := by omega
  simp [hne]
  refine exK_of b h ?_
  simp
set_option maxHeartbeats 4000000 in
set_option maxRecDepth 100000 in
theorem w37 (bs : List Int) (hb : bs.length ≤ 2^40) : ∃ x : BufP, (x.length ≤ 61 ∧ BufOk x) ∧ Contract Try.prog false 37 [.ro] [.sl false 1 (bs.map uT)] [.sl true 9 (x.map cmO)] [] := by
 refine mk_contractE [] Try.func37 (c := Try.f37.body.get!) (by kernel_rfl) k37 r37 (of_decide_eq_true rfl) ?_
 unfold c37; simp
 obtain ⟨h0, -, hC0⟩ := w71 bs hb
 unfold curT at hC0
 refine callW_ms [.ro] ?_
 simp
 refine callX_of hC0 (by simp) ?_
 simp
 obtain ⟨⟨i1, h1, ⟨c, r, d⟩, w⟩, ⟨a1, ⟨sc, sr, sd⟩, hw⟩, hC1⟩ := w80 bs 0 h0 bs hb (by omega) hb
 simp only at a1 sc sr sd hw hC1
 unfold curT regO worldO at hC1
 refine callW_ms [.own, .ro] ?_
 simp
 refine callX_of hC1 (by simp) ?_
 simp
 have hwg := hw.g
 have hwf := hw.f
 obtain ⟨L, hL, hC2⟩ := w81 bs i1 h1 c r d w.1 w.2.1 w.2.2.1 w.2.2.2 hb a1 sc.1 (by omega) (by omega)
 unfold curT regO worldO at hC2
 refine callW_ms [.own, .own, .own, .ro] ?_
 simp
 refine callX_of hC2 (by simp) ?_
 simp
 cases L with
 | nil =>
  simp
  refine exK_of [] ⟨by simp, BufOk.nil⟩ ?_
  simp
 | cons b L =>
  have h := hL b (by simp)
  have hne : ¬ ((L.length : Int) + 1 = 0) := by omega
  simp [hne]
  refine exK_of b h ?_
  simp
end Go.Proofs.YtmedelmfkciblaaT


namespace Go.Proofs.YtmedelmfkciblaaT
set_option linter.unusedVariables false
set_option linter.unusedSimpArgs false
open Go
end Go.Proofs.YtmedelmfkciblaaT


namespace Go.Proofs.YtmedelmfkciblaaT
set_option linter.unusedVariables false
set_option linter.unusedSimpArgs false
open Go
def c77 : TCode := (.seq (.ops [⟨(some 2), 4, .mv (.c (.sl true 1 [])), none, []⟩])
 (.seq (.ops [⟨(some 10), 12, .mv (.t 0), none, []⟩, ⟨(some 11), 13, .len false (.t 10), none, []⟩, ⟨(some 3), 5, .mv (.t 11), none, []⟩])
 (.seq (.seq (.ops [⟨(some 12), 14, .mv (.t 3), none, []⟩, ⟨(some 13), 15, .bin .lss (.t 12) (.c (.i .i64 2)), none, []⟩])
 (.cond (.t 13)
 (.seq (.ops [⟨(some 14), 16, .bslice 1 0 [(.i .i64 0)] [], none, []⟩, ⟨(some 15), 17, .mv (.t 0), none, []⟩, ⟨(some 16), 18, .app 1 8 (.t 14) (.t 15), none, []⟩, ⟨(some 2), 4, .mv (.t 16), none, []⟩])
 .ret)
 .skip))
 (.seq (.ops [⟨(some 17), 19, .mv (.t 0), none, []⟩, ⟨(some 18), 20, .mv (.t 3), none, []⟩, ⟨(some 19), 21, .bin .quo (.t 18) (.c (.i .i64 2)), none, []⟩, ⟨(some 20), 22, .slice false 1 (.t 17) none (some (.t 19)), none, []⟩, ⟨(some 21), 23, .call 77 [((.t 20), 0)], none, []⟩, ⟨(some 4), 6, .mv (.t 21), none, []⟩])
 (.seq (.ops [⟨(some 22), 24, .mv (.t 0), none, []⟩, ⟨(some 23), 25, .mv (.t 3), none, []⟩, ⟨(some 24), 26, .bin .quo (.t 23) (.c (.i .i64 2)), none, []⟩, ⟨(some 25), 27, .slice false 1 (.t 22) (some (.t 24)) none, none, []⟩, ⟨(some 26), 28, .call 77 [((.t 25), 0)], none, []⟩, ⟨(some 5), 7, .mv (.t 26), none, []⟩])
 (.seq (.ops [⟨(some 27), 29, .bslice 1 0 [(.i .i64 0)] [], none, []⟩, ⟨(some 6), 8, .mv (.t 27), none, []⟩])
 (.seq (.ops [⟨(some 7), 9, .mv (.c (.i .i64 0)), none, []⟩, ⟨(some 8), 10, .mv (.c (.i .i64 0)), none, []⟩])
 (.seq (.block 0 (.loop (.seq (.seq (.ops [⟨(some 28), 30, .mv (.t 7), none, []⟩, ⟨(some 29), 31, .mv (.t 4), none, []⟩, ⟨(some 30), 32, .len false (.t 29), none, []⟩, ⟨(some 31), 33, .bin .lss (.t 28) (.t 30), none, []⟩, ⟨(some 32), 34, .mv (.t 31), none, []⟩, ⟨(some 33), 35, .mv (.t 8), (some (32, false)), []⟩, ⟨(some 34), 36, .mv (.t 5), (some (32, false)), []⟩, ⟨(some 35), 37, .len false (.t 34), (some (32, false)), []⟩, ⟨(some 36), 38, .bin .lss (.t 33) (.t 35), (some (32, false)), []⟩, ⟨(some 37), 39, .pick (.t 32) (.c (.b true)) (.t 36), none, []⟩])
 (.cond (.t 37)
 .skip
 (.exit 0)))
 (.block 1 (.seq (.ops [⟨(some 9), 11, .mv (.c (.i .i64 0)), none, []⟩])
 (.seq (.seq (.draw [⟨(some 38), 40, .mv (.t 8), none, []⟩, ⟨(some 39), 41, .mv (.t 5), none, []⟩, ⟨(some 40), 42, .len false (.t 39), none, []⟩, ⟨(some 41), 43, .bin .geq (.t 38) (.t 40), none, []⟩, ⟨(some 42), 44, .mv (.t 41), none, []⟩, ⟨(some 43), 45, .mv (.t 7), (some (42, false)), []⟩, ⟨(some 44), 46, .mv (.t 4), (some (42, false)), []⟩, ⟨(some 45), 47, .len false (.t 44), (some (42, false)), []⟩, ⟨(some 46), 48, .bin .lss (.t 43) (.t 45), (some (42, false)), []⟩, ⟨(some 47), 49, .mv (.t 46), (some (42, false)), []⟩, ⟨(some 48), 50, .mv (.t 4), (some (47, true)), []⟩, ⟨(some 49), 51, .mv (.t 7), (some (47, true)), []⟩, ⟨(some 50), 52, .iaddr 1 (.t 48) (.t 49), (some (47, true)), []⟩, ⟨(some 51), 53, .load false 1 (.t 50), (some (47, true)), []⟩, ⟨(some 52), 54, .mv (.t 5), (some (47, true)), []⟩, ⟨(some 53), 55, .mv (.t 8), (some (47, true)), []⟩, ⟨(some 54), 56, .iaddr 1 (.t 52) (.t 53), (some (47, true)), []⟩, ⟨(some 55), 57, .load false 1 (.t 54), (some (47, true)), []⟩, ⟨(some 56), 58, .bin .leq (.t 51) (.t 55), (some (47, true)), []⟩, ⟨(some 57), 59, .pick (.t 47) (.t 56) (.c (.b false)), (some (42, false)), []⟩, ⟨(some 58), 60, .pick (.t 42) (.c (.b true)) (.t 57), none, []⟩])
 (.cond (.t 58)
 (.seq (.ops [⟨(some 59), 61, .mv (.t 4), none, []⟩, ⟨(some 60), 62, .mv (.t 7), none, []⟩, ⟨(some 61), 63, .iaddr 1 (.t 59) (.t 60), none, []⟩, ⟨(some 62), 64, .load false 1 (.t 61), none, []⟩, ⟨(some 9), 11, .mv (.t 62), none, []⟩])
 (.ops [⟨(some 63), 65, .mv (.t 7), none, []⟩, ⟨(some 64), 66, .bin .add (.t 63) (.c (.i .i64 1)), none, []⟩, ⟨(some 7), 9, .mv (.t 64), none, []⟩]))
 (.seq (.ops [⟨(some 65), 67, .mv (.t 5), none, []⟩, ⟨(some 66), 68, .mv (.t 8), none, []⟩, ⟨(some 67), 69, .iaddr 1 (.t 65) (.t 66), none, []⟩, ⟨(some 68), 70, .load false 1 (.t 67), none, []⟩, ⟨(some 9), 11, .mv (.t 68), none, []⟩])
 (.ops [⟨(some 69), 71, .mv (.t 8), none, []⟩, ⟨(some 70), 72, .bin .add (.t 69) (.c (.i .i64 1)), none, []⟩, ⟨(some 8), 10, .mv (.t 70), none, []⟩]))))
 (.seq (.ops [⟨(some 71), 73, .mv (.t 6), none, []⟩, ⟨(some 72), 74, .len false (.t 71), none, []⟩, ⟨(some 73), 75, .bin .eql (.t 72) (.c (.i .i64 0)), none, []⟩, ⟨(some 74), 76, .mv (.t 73), none, []⟩, ⟨(some 75), 77, .mv (.t 6), (some (74, false)), []⟩, ⟨(some 76), 78, .mv (.t 6), (some (74, false)), []⟩, ⟨(some 77), 79, .len false (.t 76), (some (74, false)), []⟩, ⟨(some 78), 80, .bin .sub (.t 77) (.c (.i .i64 1)), (some (74, false)), []⟩, ⟨(some 79), 81, .iaddr 1 (.t 75) (.t 78), (some (74, false)), []⟩, ⟨(some 80), 82, .load false 1 (.t 79), (some (74, false)), []⟩, ⟨(some 81), 83, .mv (.t 9), (some (74, false)), []⟩, ⟨(some 82), 84, .bin .neq (.t 80) (.t 81), (some (74, false)), []⟩, ⟨(some 83), 85, .pick (.t 74) (.c (.b true)) (.t 82), none, []⟩])
 (.cond (.t 83)
 (.ops [⟨(some 84), 86, .mv (.t 6), none, []⟩, ⟨(some 85), 87, .mv (.t 9), none, []⟩, ⟨(some 86), 88, .bslice 1 1 [(.i .i64 0)] [(0, (.t 85))], none, []⟩, ⟨(some 87), 89, .app 1 8 (.t 84) (.t 86), none, []⟩, ⟨(some 6), 8, .mv (.t 87), none, []⟩])
 .skip))))))))
 (.seq (.ops [⟨(some 88), 90, .mv (.t 6), none, []⟩, ⟨(some 2), 4, .mv (.t 88), none, []⟩])
 .ret)))))))))
theorem k77 : compCode Try.prog Try.f77.ntmps Try.f77.body.get! = some c77 := by kernel_rfl
theorem r77 : resTmps Try.prog Try.f77.results.toList = some [.tmp 2] := by kernel_rfl
def push (o : List Int) (x : Int) : List Int := if o.getLast? = some x then o else o ++ [x]
theorem drop_cons {a : List Int} {i : Nat} {x : Int} (hx : a[i]? = some x) : a.drop i = x :: a.drop (i + 1) := by
 obtain ⟨h, rfl⟩ := List.getElem?_eq_some_iff.1 hx
 exact List.drop_eq_getElem_cons h
structure MI (a b o : List Int) (i k : Nat) : Prop where
 ri : ris o
 mem : ∀ x, x ∈ o ↔ x ∈ a.take i ∨ x ∈ b.take k
 la : ∀ x ∈ o, ∀ y ∈ a.drop i, x ≤ y
 lb : ∀ x ∈ o, ∀ y ∈ b.drop k, x ≤ y
theorem MI.zero (a b : List Int) : MI a b [] 0 0 := ⟨List.Pairwise.nil, by simp, by simp, by simp⟩
theorem push_ris {o : List Int} {x : Int} (h : ris o) (hx : ∀ y ∈ o, y ≤ x) : ris (push o x) := by
 unfold push; split
 ·exact h
 ·rename_i hl
  refine List.pairwise_append.2 ⟨h, List.pairwise_singleton _ _, fun y hy z hz => ?_⟩
  rw [List.mem_singleton] at hz; subst hz
  have h1 := hx y hy
  rcases Int.lt_or_eq_of_le h1 with h2 | h2
  ·exact h2
  ·subst h2
   exfalso
   rcases List.eq_nil_or_concat o with rfl | ⟨o', u, rfl⟩
   ·cases hy
   ·rw [List.concat_eq_append] at *
    simp at hl hy
    rcases hy with hy | hy
    ·have h3 := (List.pairwise_append.1 h).2.2 y hy u (by simp)
     have h4 := hx u (by simp)
     omega
    ·exact hl hy.symm
theorem push_mem {o : List Int} {x z : Int} : z ∈ push o x ↔ z ∈ o ∨ z = x := by
 unfold push; split
 ·rename_i h
  have : x ∈ o := List.mem_of_getLast? h
  exact ⟨.inl, fun h => h.elim id fun h => h ▸ this⟩
 ·simp
theorem MI.pushA {a b o : List Int} {i k : Nat} {x : Int} (h : MI a b o i k) (ha : ris a) (hx : a[i]? = some x) (hy : ∀ y ∈ b.drop k, x ≤ y) : MI a b (push o x) (i + 1) k := by
 have hi := (List.getElem?_eq_some_iff.1 hx).1
 have hd : a.drop i = x :: a.drop (i + 1) := drop_cons hx
 have hpw : (x :: a.drop (i + 1)).Pairwise (· < ·) := by rw [← hd]; exact List.Pairwise.sublist (List.drop_sublist i a) ha
 refine ⟨push_ris h.ri fun y hy => h.la y hy x (by rw [hd]; simp), fun z => ?_, fun z hz y hy2 => ?_, fun z hz y hy2 => ?_⟩
 ·rw [push_mem, h.mem, take_snoc hx]; simp
  constructor
  ·rintro ((h1 | h1) | h1)
   ·exact .inl (.inl h1)
   ·exact .inr h1
   ·exact .inl (.inr h1)
  ·rintro ((h1 | h1) | h1)
   ·exact .inl (.inl h1)
   ·exact .inr h1
   ·exact .inl (.inr h1)
 ·rcases push_mem.1 hz with h1 | rfl
  ·exact h.la z h1 y (by rw [hd]; exact List.mem_cons_of_mem _ hy2)
  ·exact Int.le_of_lt ((List.pairwise_cons.1 hpw).1 y hy2)
 ·rcases push_mem.1 hz with h1 | rfl
  ·exact h.lb z h1 y hy2
  ·exact hy y hy2
theorem MI.swap {a b o : List Int} {i k : Nat} (h : MI a b o i k) : MI b a o k i := ⟨h.ri, fun x => by rw [h.mem]; exact Or.comm, h.lb, h.la⟩
theorem MI.pushB {a b o : List Int} {i k : Nat} {x : Int} (h : MI a b o i k) (hb : ris b) (hx : b[k]? = some x) (hy : ∀ y ∈ a.drop i, x ≤ y) : MI a b (push o x) i (k + 1) := (h.swap.pushA hb hx hy).swap
theorem ris_head {a : List Int} {i : Nat} {x : Int} (ha : ris a) (hx : a[i]? = some x) : ∀ y ∈ a.drop i, x ≤ y := fun y hy => by
 have hd : a.drop i = x :: a.drop (i + 1) := drop_cons hx
 have hpw : (x :: a.drop (i + 1)).Pairwise (· < ·) := by rw [← hd]; exact List.Pairwise.sublist (List.drop_sublist i a) ha
 rw [hd] at hy
 rcases List.mem_cons.1 hy with rfl | h
 ·exact Int.le_refl _
 ·exact Int.le_of_lt ((List.pairwise_cons.1 hpw).1 y h)
theorem push_len (o : List Int) (x : Int) : (push o x).length ≤ o.length + 1 := by unfold push; split <;> simp
theorem push_nil (x : Int) : push [] x = [x] := rfl
theorem push_same (o : List Int) (x : Int) : push (o ++ [x]) x = o ++ [x] := by unfold push; rw [if_pos (by simp)]
theorem push_ne (o : List Int) {z x : Int} (h : ¬ z = x) : push (o ++ [z]) x = o ++ [z] ++ [x] := by unfold push; rw [if_neg (by simpa using h)]
theorem w77 (l : List Int) (hl : l.length ≤ 2^40) : Contract Try.prog false 77 [.ro] [.sl false 1 (l.map iT)] [.sl true 1 ((asc l).map iT)] [] := by
 induction hn : l.length using Nat.strongRecOn generalizing l with
 | ind n ih =>
 subst hn
 refine mk_contract [] Try.func77 (c := Try.f77.body.get!) (by kernel_rfl) k77 r77 (of_decide_eq_true rfl) fun _ => ?_
 unfold c77; simp
 refine ⟨fun h => ?_, fun h => ?_⟩
 ·have e : l = asc l := asc_eq (by
   match l, h with
   | [], _ => exact List.Pairwise.nil
   | [x], _ => exact List.pairwise_singleton _ _
   | x :: y :: l, h => simp at h; omega) (fun x => Iff.rfl)
  rw [← e]
  exact ⟨by omega, rfl⟩
 ·have hwm : IntKind.i64.wrap ((l.length : Int) / 2) = ((l.length / 2 : Nat) : Int) := by rw [wrap_id (by omega) (by omega)]; omega
  have h1 := ih (l.length / 2) (by omega) (l.take (l.length / 2)) (by simp; omega) (by simp; omega)
  have h2 := ih (l.length - l.length / 2) (by omega) (l.drop (l.length / 2)) (by simp; omega) (by simp)
  have ra := asc_ris (l.take (l.length / 2))
  have rb := asc_ris (l.drop (l.length / 2))
  have la := asc_len (l.take (l.length / 2))
  have lb := asc_len (l.drop (l.length / 2))
  have hend : ∀ o, MI (asc (l.take (l.length / 2))) (asc (l.drop (l.length / 2))) o (asc (l.take (l.length / 2))).length (asc (l.drop (l.length / 2))).length → o = asc l := fun o h => by
   refine asc_eq h.ri fun x => ?_
   rw [h.mem, List.take_of_length_le (Nat.le_refl _), List.take_of_length_le (Nat.le_refl _), asc_mem, asc_mem, ← List.mem_append, List.take_append_drop]
  rw [List.map_take] at h1
  rw [List.map_drop] at h2
  rw [List.length_take] at la
  rw [List.length_drop] at lb
  generalize asc (l.take (l.length / 2)) = a at *
  generalize asc (l.drop (l.length / 2)) = b at *
  rw [hwm]
  refine ⟨by omega, by omega, ?_⟩
  refine callW_ms [.ro] ?_
  simp
  refine callX_of h1 (by simp) ?_
  simp [hwm]
  refine ⟨by omega, by omega, ?_⟩
  refine callW_ms [.ro] ?_
  simp
  refine callX_of h2 (by simp) ?_
  simp
  refine twp_forR (a.length + b.length) (fun j s => ∃ (i k : Nat) (o : List Int), i + k = j ∧ i ≤ a.length ∧ k ≤ b.length ∧ o.length ≤ i + k ∧ MI a b o i k ∧ s.t 4 = .rf [(23, 0)] 0 a.length ∧ s.t 5 = .rf [(28, 0)] 0 b.length ∧ s.t 6 = .rf [(89, 0)] 0 o.length ∧ s.t 7 = .i .i64 i ∧ s.t 8 = .i .i64 k ∧ s.H = lk [(1, []), (23, [.sl true 1 (a.map iT)]), (28, [.sl true 1 (b.map iT)]), (89, [.sl true 1 (o.map iT)])]) [88] [(29, 89)] (by simp) (by simp) ?_ ?_
  ·exact ⟨0, 0, [], rfl, by omega, by omega, by simp, MI.zero a b, by simp⟩
  ·rintro j s hj ⟨i, k, o, rfl, hi, hk, hol, hM, q4, q5, q6, q7, q8, qH⟩
   rw [nf_of qH]
   simp [q4, q5, q6, q7, q8]
   have hwi : IntKind.i64.wrap ((i : Int) + 1) = i + 1 := wrap_id (by omega) (by omega)
   have hwk : IntKind.i64.wrap ((k : Int) + 1) = k + 1 := wrap_id (by omega) (by omega)
   cases hbi : decide (i < a.length)
   rotate_left
   ·have hia : i < a.length := of_decide_eq_true hbi
    obtain ⟨x, hx⟩ := get_some hia
    simp [q4, q5, q6, q7, q8]
    cases hbk : decide (b.length ≤ k)
    rotate_left
    ·have hkb : b.length ≤ k := of_decide_eq_true hbk
     obtain rfl : k = b.length := by omega
     simp [q4, q5, q6, q7, q8, hx, hwi]
     refine ⟨hia, ?_⟩
     have hM2 := hM.pushA ra hx (by simp)
     have hpl := push_len o x
     rcases List.eq_nil_or_concat o with rfl | ⟨o', z, rfl⟩
     ·simp [q4, q5, q6, q7, q8, hwi, hwk]
      exact ⟨by omega, i + 1, b.length, by omega, by omega, by omega, push [] x, by omega, hM2, by simp [push_nil]⟩
     ·rw [List.concat_eq_append] at *
      have hne : ¬ ((o' ++ [z]).length = 0) := by simp
      have hol2 : o'.length + 1 ≤ i + b.length := by simpa using hol
      have hwo : IntKind.i64.wrap (o'.length : Int) = o'.length := wrap_id (by omega) (by simp at hol; omega)
      by_cases hz : z = x
      ·subst hz
       rw [push_same] at hM2 hpl
       simp [q4, q5, q6, q7, q8, hwi, hwk, hwo]
       exact ⟨by omega, by omega, i + 1, b.length, by omega, by omega, by omega, o' ++ [z], by omega, hM2, by simp⟩
      ·rw [push_ne _ hz] at hM2 hpl
       simp at hpl
       simp [q4, q5, q6, q7, q8, hwi, hwk, hwo, hz]
       exact ⟨by omega, by omega, by omega, i + 1, b.length, by omega, by omega, by omega, o' ++ [z] ++ [x], by simp; omega, hM2, by simp⟩
    ·have hkb : ¬ b.length ≤ k := of_decide_eq_false hbk
     obtain ⟨y, hy⟩ := get_some (l := b) (j := k) (by omega)
     simp [q4, q5, q6, q7, q8, hx, hy]
     simp only [hbi]
     simp [q4, q5, q6, q7, q8, hx, hy]
     refine ⟨hia, by omega, fun hxy => ⟨hia, ?_⟩, fun hxy => ?_⟩
     ·have hM2 := hM.pushA ra hx (fun z hz => Int.le_trans hxy (ris_head rb hy z hz))
      have hpl := push_len o x
      rcases List.eq_nil_or_concat o with rfl | ⟨o', z, rfl⟩
      ·simp [q4, q5, q6, q7, q8, hwi, hwk]
       exact ⟨by omega, i + 1, k, by omega, by omega, by omega, push [] x, by omega, hM2, by simp [push_nil]⟩
      ·rw [List.concat_eq_append] at *
       have hne : ¬ ((o' ++ [z]).length = 0) := by simp
       have hol2 : o'.length + 1 ≤ i + k := by simpa using hol
       have hwo : IntKind.i64.wrap (o'.length : Int) = o'.length := wrap_id (by omega) (by simp at hol; omega)
       by_cases hz : z = x
       ·subst hz
        rw [push_same] at hM2 hpl
        simp [q4, q5, q6, q7, q8, hwi, hwk, hwo]
        exact ⟨by omega, by omega, i + 1, k, by omega, by omega, by omega, o' ++ [z], by omega, hM2, by simp⟩
       ·rw [push_ne _ hz] at hM2 hpl
        simp at hpl
        simp [q4, q5, q6, q7, q8, hwi, hwk, hwo, hz]
        exact ⟨by omega, by omega, by omega, i + 1, k, by omega, by omega, by omega, o' ++ [z] ++ [x], by simp; omega, hM2, by simp⟩
     ·refine ⟨by omega, ?_⟩
      have hM2 := hM.pushB rb hy (fun z hz => Int.le_trans (Int.le_of_lt (by omega)) (ris_head ra hx z hz))
      have hpl := push_len o y
      rcases List.eq_nil_or_concat o with rfl | ⟨o', z, rfl⟩
      ·simp [q4, q5, q6, q7, q8, hwi, hwk]
       exact ⟨by omega, i, k + 1, by omega, by omega, by omega, push [] y, by omega, hM2, by simp [push_nil]⟩
      ·rw [List.concat_eq_append] at *
       have hne : ¬ ((o' ++ [z]).length = 0) := by simp
       have hol2 : o'.length + 1 ≤ i + k := by simpa using hol
       have hwo : IntKind.i64.wrap (o'.length : Int) = o'.length := wrap_id (by omega) (by simp at hol; omega)
       by_cases hz : z = y
       ·subst hz
        rw [push_same] at hM2 hpl
        simp [q4, q5, q6, q7, q8, hwi, hwk, hwo]
        exact ⟨by omega, by omega, i, k + 1, by omega, by omega, by omega, o' ++ [z], by omega, hM2, by simp⟩
       ·rw [push_ne _ hz] at hM2 hpl
        simp at hpl
        simp [q4, q5, q6, q7, q8, hwi, hwk, hwo, hz]
        exact ⟨by omega, by omega, by omega, i, k + 1, by omega, by omega, by omega, o' ++ [z] ++ [y], by simp; omega, hM2, by simp⟩
   ·have hia : ¬ i < a.length := of_decide_eq_false hbi
    obtain rfl : i = a.length := by omega
    simp [q4, q5, q6, q7, q8]
    refine ⟨fun hkb => ?_, fun hkb => ?_⟩
    ·obtain ⟨y, hy⟩ := get_some hkb
     have hbk : decide (b.length ≤ k) = false := decide_eq_false (by omega)
     simp only [hbk]
     simp [q4, q5, q6, q7, q8, hy]
     refine ⟨hkb, ?_⟩
     have hM2 := hM.pushB rb hy (by simp)
     have hpl := push_len o y
     rcases List.eq_nil_or_concat o with rfl | ⟨o', z, rfl⟩
     ·simp [q4, q5, q6, q7, q8, hwi, hwk]
      exact ⟨by omega, a.length, k + 1, by omega, by omega, by omega, push [] y, by omega, hM2, by simp [push_nil]⟩
     ·rw [List.concat_eq_append] at *
      have hne : ¬ ((o' ++ [z]).length = 0) := by simp
      have hol2 : o'.length + 1 ≤ a.length + k := by simpa using hol
      have hwo : IntKind.i64.wrap (o'.length : Int) = o'.length := wrap_id (by omega) (by simp at hol; omega)
      by_cases hz : z = y
      ·subst hz
       rw [push_same] at hM2 hpl
       simp [q4, q5, q6, q7, q8, hwi, hwk, hwo]
       exact ⟨by omega, by omega, a.length, k + 1, by omega, by omega, by omega, o' ++ [z], by omega, hM2, by simp⟩
      ·rw [push_ne _ hz] at hM2 hpl
       simp at hpl
       simp [q4, q5, q6, q7, q8, hwi, hwk, hwo, hz]
       exact ⟨by omega, by omega, by omega, a.length, k + 1, by omega, by omega, by omega, o' ++ [z] ++ [y], by simp; omega, hM2, by simp⟩
    ·obtain rfl : k = b.length := by omega
     rw [← hend o hM]
end Go.Proofs.YtmedelmfkciblaaT

