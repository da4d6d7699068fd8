/- Rows of things; EntList. -/
import Derived.Test.YtloodkhdngipbaaKe
namespace Go.Proofs.YtloodkhdngipbaaT
set_option linter.unusedVariables false
set_option linter.unusedSimpArgs false
open Go

/- spec.EntList -/
def c47 : TCode := (.seq (.ops [⟨(some 1), 3, .box 2 (.t 0), none, []⟩, ⟨(some 2), 4, .mv (.c (.sl true 2 [])), none, []⟩])
  (.seq (.ops [⟨(some 7), 9, .bslice 2 0 [(.i .i64 0), (.i .i64 0)] [], none, []⟩, ⟨(some 3), 5, .mv (.t 7), none, []⟩])
  (.seq (.seq (.ops [⟨(some 8), 10, .load true 2 (.t 1), none, []⟩, ⟨(some 9), 11, .call 92 [((.t 8), 0)], none, []⟩, ⟨(some 10), 12, .un .not (.t 9), none, []⟩])
  (.cond (.t 10)
  (.seq (.ops [⟨(some 11), 13, .mv (.t 3), none, []⟩, ⟨(some 2), 4, .mv (.t 11), none, []⟩])
  .ret)
  .skip))
  (.seq (.ops [⟨(some 12), 14, .faddr 0 1 (.t 1), none, []⟩, ⟨(some 13), 15, .load false 1 (.t 12), none, []⟩, ⟨(some 14), 16, .len false (.t 13), none, []⟩, ⟨(some 15), 17, .mkslice 1 1 [(.b false)] (.t 14) (.t 14), none, []⟩, ⟨(some 4), 6, .mv (.t 15), none, []⟩])
  (.seq (.seq (.ops [⟨(some 5), 7, .mv (.c (.i .i64 0)), none, []⟩])
  (.block 0 (.loop (.seq (.seq (.ops [⟨(some 16), 18, .mv (.t 5), none, []⟩, ⟨(some 17), 19, .faddr 1 1 (.t 1), none, []⟩, ⟨(some 18), 20, .load false 1 (.t 17), none, []⟩, ⟨(some 19), 21, .len false (.t 18), none, []⟩, ⟨(some 20), 22, .bin .lss (.t 16) (.t 19), none, []⟩])
  (.cond (.t 20)
  .skip
  (.exit 0)))
  (.seq (.block 1 (.ops [⟨(some 23), 25, .mv (.t 4), none, []⟩, ⟨(some 24), 26, .faddr 1 1 (.t 1), none, []⟩, ⟨(some 25), 27, .load false 1 (.t 24), none, []⟩, ⟨(some 26), 28, .mv (.t 5), none, []⟩, ⟨(some 27), 29, .iaddr 1 (.t 25) (.t 26), none, []⟩, ⟨(some 28), 30, .load false 1 (.t 27), none, []⟩, ⟨(some 29), 31, .iaddr 1 (.t 23) (.t 28), none, []⟩, ⟨none, 1008007, .store 1 (.t 29) (.c (.b true)), none, []⟩]))
  (.ops [⟨(some 21), 23, .mv (.t 5), none, []⟩, ⟨(some 22), 24, .bin .add (.t 21) (.c (.i .i64 1)), none, []⟩, ⟨(some 5), 7, .mv (.t 22), none, []⟩]))))))
  (.seq (.seq (.ops [⟨(some 6), 8, .mv (.c (.i .i64 0)), none, []⟩])
  (.block 2 (.loop (.seq (.seq (.ops [⟨(some 30), 32, .mv (.t 6), none, []⟩, ⟨(some 31), 33, .faddr 0 1 (.t 1), none, []⟩, ⟨(some 32), 34, .load false 1 (.t 31), none, []⟩, ⟨(some 33), 35, .len false (.t 32), none, []⟩, ⟨(some 34), 36, .bin .lss (.t 30) (.t 33), none, []⟩])
  (.cond (.t 34)
  .skip
  (.exit 2)))
  (.seq (.block 3 (.seq (.ops [⟨(some 37), 39, .mv (.t 4), none, []⟩, ⟨(some 38), 40, .mv (.t 6), none, []⟩, ⟨(some 39), 41, .iaddr 1 (.t 37) (.t 38), none, []⟩, ⟨(some 40), 42, .load false 1 (.t 39), none, []⟩, ⟨(some 41), 43, .un .not (.t 40), none, []⟩])
  (.cond (.t 41)
  (.ops [⟨(some 42), 44, .mv (.t 3), none, []⟩, ⟨(some 43), 45, .mv (.t 6), none, []⟩, ⟨(some 44), 46, .faddr 0 1 (.t 1), none, []⟩, ⟨(some 45), 47, .load false 1 (.t 44), none, []⟩, ⟨(some 46), 48, .mv (.t 6), none, []⟩, ⟨(some 47), 49, .iaddr 1 (.t 45) (.t 46), none, []⟩, ⟨(some 48), 50, .load false 1 (.t 47), none, []⟩, ⟨(some 49), 51, .build [(.i .i64 0), (.i .i64 0)] [(0, 1, (.t 43)), (1, 1, (.t 48))], none, []⟩, ⟨(some 50), 52, .bslice 2 1 [(.i .i64 0), (.i .i64 0)] [(0, (.t 49))], none, []⟩, ⟨(some 51), 53, .app 2 16 (.t 42) (.t 50), none, []⟩, ⟨(some 3), 5, .mv (.t 51), none, []⟩])
  .skip)))
  (.ops [⟨(some 35), 37, .mv (.t 6), none, []⟩, ⟨(some 36), 38, .bin .add (.t 35) (.c (.i .i64 1)), none, []⟩, ⟨(some 6), 8, .mv (.t 36), none, []⟩]))))))
  (.seq (.ops [⟨(some 52), 54, .mv (.t 3), none, []⟩, ⟨(some 2), 4, .mv (.t 52), none, []⟩])
  .ret)))))))
theorem k47 : compCode Try.prog Try.f47.ntmps Try.f47.body.get! = some c47 := by kernel_rfl
theorem r47 : resTmps Try.prog Try.f47.results.toList = some [.tmp 2] := by kernel_rfl
/- impl.EntList -/
def c46 : TCode := (.seq (.ops [⟨(some 1), 3, .box 2 (.t 0), none, []⟩, ⟨(some 2), 4, .mv (.c (.sl true 2 [])), none, []⟩])
  (.seq (.ops [⟨(some 8), 10, .bslice 2 0 [(.i .i64 0), (.i .i64 0)] [], none, []⟩, ⟨(some 3), 5, .mv (.t 8), none, []⟩])
  (.seq (.seq (.ops [⟨(some 9), 11, .load true 2 (.t 1), none, []⟩, ⟨(some 10), 12, .call 89 [((.t 9), 0)], none, []⟩, ⟨(some 11), 13, .un .not (.t 10), none, []⟩])
  (.cond (.t 11)
  (.seq (.ops [⟨(some 12), 14, .mv (.t 3), none, []⟩, ⟨(some 2), 4, .mv (.t 12), none, []⟩])
  .ret)
  .skip))
  (.seq (.ops [⟨(some 14), 16, .load true 2 (.t 1), none, []⟩, ⟨(some 15), 17, .call 98 [((.t 14), 0)], none, []⟩, ⟨(some 13), 15, .mv (.t 15), none, []⟩, ⟨(some 16), 18, .ext 0 (.t 13), none, []⟩, ⟨(some 17), 19, .ext 1 (.t 13), none, []⟩, ⟨(some 4), 6, .mv (.t 16), none, []⟩, ⟨(some 5), 7, .mv (.t 17), none, []⟩])
  (.seq (.seq (.ops [⟨(some 18), 20, .faddr 0 1 (.t 1), none, []⟩, ⟨(some 19), 21, .load false 1 (.t 18), none, []⟩, ⟨(some 20), 22, .len false (.t 19), none, []⟩, ⟨(some 21), 23, .mv (.c (.i .i64 0)), none, []⟩])
  (.block 0 (.loop (.seq (.ops [⟨(some 22), 24, .bin .lss (.t 21) (.t 20), none, []⟩])
  (.seq (.cond (.t 22)
  .skip
  (.exit 0))
  (.seq (.block 1 (.seq (.ops [⟨(some 23), 25, .mv (.t 21), none, []⟩, ⟨(some 24), 26, .iaddr 1 (.t 19) (.t 21), none, []⟩, ⟨(some 25), 27, .load false 1 (.t 24), none, []⟩, ⟨(some 6), 8, .mv (.t 23), none, []⟩, ⟨(some 7), 9, .mv (.t 25), none, []⟩])
  (.seq (.ops [⟨(some 26), 28, .mv (.t 4), none, []⟩, ⟨(some 27), 29, .mv (.t 6), none, []⟩, ⟨(some 28), 30, .iaddr 1 (.t 26) (.t 27), none, []⟩, ⟨(some 29), 31, .load false 1 (.t 28), none, []⟩, ⟨(some 30), 32, .un .not (.t 29), none, []⟩])
  (.cond (.t 30)
  (.ops [⟨(some 31), 33, .mv (.t 3), none, []⟩, ⟨(some 32), 34, .mv (.t 6), none, []⟩, ⟨(some 33), 35, .mv (.t 7), none, []⟩, ⟨(some 34), 36, .build [(.i .i64 0), (.i .i64 0)] [(0, 1, (.t 32)), (1, 1, (.t 33))], none, []⟩, ⟨(some 35), 37, .bslice 2 1 [(.i .i64 0), (.i .i64 0)] [(0, (.t 34))], none, []⟩, ⟨(some 36), 38, .app 2 16 (.t 31) (.t 35), none, []⟩, ⟨(some 3), 5, .mv (.t 36), none, []⟩])
  .skip))))
  (.ops [⟨(some 37), 39, .bin .add (.t 21) (.c (.i .i64 1)), none, []⟩, ⟨(some 21), 23, .mv (.t 37), none, []⟩])))))))
  (.seq (.ops [⟨(some 38), 40, .mv (.t 3), none, []⟩, ⟨(some 2), 4, .mv (.t 38), none, []⟩])
  .ret))))))
theorem k46 : compCode Try.prog Try.f46.ntmps Try.f46.body.get! = some c46 := by kernel_rfl
theorem r46 : resTmps Try.prog Try.f46.results.toList = some [.tmp 2] := by kernel_rfl

@[simp] def eT (p : Int × Int) : List TV := [.i .i64 p.1, .i .i64 p.2]
@[simp] theorem fzL_eT (p : Int × Int) : fzL (eT p) = eT p := rfl
@[simp] theorem fzLL_eT (l : List (Int × Int)) : fzLL (l.map eT) = l.map eT := fzLL_map fzL_eT l
@[simp] theorem noROLL_eT (l : List (Int × Int)) : noROLL (l.map eT) = true := noROLL_map (fun _ => rfl) l
@[simp] theorem noref_eT (l : List (Int × Int)) : (l.map eT).all (·.all noref) = true := noref_map (fun _ => rfl) l
@[simp] theorem srcT_eT (H : Hp) (z : Nat) (l : List (Int × Int)) : srcT H (.sl false z (l.map eT)) = some (z, l.map eT, H, []) := by simp only [srcT, noref_eT, if_true]

/-- The places that are not free, with their gens. -/
def liveG (g f : List Int) : Nat → List (Int × Int)
  | 0 => []
  | n + 1 => liveG g f n ++ (if (n : Int) ∈ f then [] else [((n : Int), (g[n]?).getD 0)])
theorem liveG_len (g f : List Int) (n : Nat) : (liveG g f n).length ≤ n := by
  induction n with
  | zero => simp [liveG]
  | succ n ih => simp only [liveG, List.length_append]; split <;> simp <;> omega
def entListF (g f : List Int) : List (Int × Int) := if EntsOkP g f then liveG g f g.length else []
theorem entListF_len (g f : List Int) : (entListF g f).length ≤ g.length := by
  unfold entListF; split
  · exact liveG_len ..
  · simp
theorem w47 (g f : List Int) (hg : g.length ≤ 2^40) (hf : f.length ≤ 2^40) : Contract Try.prog false 47 [.ro] [entsR g f] [.sl true 2 ((entListF g f).map eT)] [] := by
  refine mk_contract [] Try.func47 (c := Try.f47.body.get!) (by kernel_rfl) k47 r47 (of_decide_eq_true rfl) fun _ => ?_
  unfold c47; unfold entsR; simp
  refine callW_ms [.ro] ?_
  simp
  refine callX_of (w92 g f hg hf) (by simp) ?_
  simp
  refine ⟨fun hE => ?_, fun hE => ?_⟩
  · refine ⟨by omega, ?_⟩
    refine twp_for f.length (fun j s => s.t 1 = .pt [(3, 0)] 0 0 ∧ s.t 3 = .rf [(9, 0)] 0 0 ∧ s.t 4 = .rf [(17, 0)] 0 g.length ∧ s.t 5 = .i .i64 j ∧ s.H = lk [(1, []), (3, [.po true [.sl false 1 (g.map iT), .sl false 1 (f.map iT)]]), (9, [.sl true 2 []]), (17, [.sl true 1 ((freeL g.length (f.take j)).map bT)])]) [] (by simp) ?_ ?_
    · simp
    · rintro j s hj ⟨q1, q3, q4, q5, qH⟩
      rw [nf_of qH]
      simp [q1, q3, q4, q5]
      refine ⟨fun hlt => ?_, fun hge => ?_⟩
      · have hw : IntKind.i64.wrap (j + 1) = j + 1 := wrap_id (by omega) (by omega)
        obtain ⟨x, hx⟩ := get_some hlt
        have hb := hE.2.1.1 x (List.mem_of_getElem? hx)
        have hgt := freeL_get (n := g.length) (f := f.take j) (x := x) hb.1 hb.2
        have hset : (List.map bT (freeL g.length (f.take j))).set x.toNat [.b true] = List.map bT (freeL g.length (f.take (j + 1))) := by
          rw [take_snoc hx, ← freeL_set hb.1 hb.2]; simp
        simp [hx, hw, q1, q3, q4, q5, hb.1, hb.2, hgt, hset]
        omega
      · obtain rfl : j = f.length := by omega
        simp [q1, q3, q4, q5]
        refine twp_forR g.length (fun j s => s.t 1 = .pt [(3, 0)] 0 0 ∧ s.t 3 = .rf [(53, 0)] 0 (liveG g f j).length ∧ s.t 4 = .rf [(17, 0)] 0 g.length ∧ s.t 6 = .i .i64 j ∧ s.H = lk [(1, []), (3, [.po true [.sl false 1 (g.map iT), .sl false 1 (f.map iT)]]), (53, [.sl true 2 ((liveG g f j).map eT)]), (17, [.sl true 1 ((freeL g.length f).map bT)])]) [52] [(9, 53)] (by simp) (by simp) ?_ ?_
        · simp [q1, q3, q4, liveG]
        · rintro j s hj ⟨q1, q3, q4, q6, qH⟩
          rw [nf_of qH]
          simp [q1, q3, q4, q6]
          refine ⟨fun hlt => ?_, fun hge => ?_⟩
          · have hw : IntKind.i64.wrap (j + 1) = j + 1 := wrap_id (by omega) (by omega)
            obtain ⟨x, hx⟩ := get_some hlt
            have hgt := freeL_get (n := g.length) (f := f) (x := j) (by omega) (by omega)
            simp at hgt
            have hll := liveG_len g f j
            simp [hx, hw, q1, q3, q4, q6, hgt]
            refine ⟨hlt, fun h => ?_, fun h => ?_⟩
            · simp [liveG, h, hlt]
            · refine ⟨by omega, hlt, ?_⟩; simp [liveG, h, hx]
          · obtain rfl : j = g.length := by omega
            simp [q1, q3, q4, q6, entListF, hE]
  · simp [entListF, hE]
theorem w46 (g f : List Int) (hg : g.length ≤ 2^40) (hf : f.length ≤ 2^40) : Contract Try.prog false 46 [.ro] [entsR g f] [.sl true 2 ((entListF g f).map eT)] [] := by
  refine mk_contract [] Try.func46 (c := Try.f46.body.get!) (by kernel_rfl) k46 r46 (of_decide_eq_true rfl) fun _ => ?_
  unfold c46; unfold entsR; simp
  refine callW_ms [.ro] ?_
  simp
  refine callX_of (w89 g f hg hf) (by simp) ?_
  simp
  refine ⟨fun hE => ?_, fun hE => ?_⟩
  · refine callW_ms [.ro] ?_
    simp
    refine callX_of (w98 g f hg hf) (by simp) ?_
    simp [hE.2.1]
    refine twp_forR g.length (fun j s => s.t 1 = .pt [(3, 0)] 0 0 ∧ s.t 3 = .rf [(38, 0)] 0 (liveG g f j).length ∧ s.t 4 = .rf [(17, 0)] 0 g.length ∧ s.t 19 = .sl false 1 (g.map iT) ∧ s.t 20 = .i .i64 g.length ∧ s.t 21 = .i .i64 j ∧ s.H = lk [(1, []), (3, [.po true [.sl false 1 (g.map iT), .sl false 1 (f.map iT)]]), (38, [.sl true 2 ((liveG g f j).map eT)]), (17, [.sl true 1 ((freeL g.length f).map bT), .b true])]) [37] [(10, 38)] (by simp) (by simp) ?_ ?_
    · simp [liveG]
    · rintro j s hj ⟨q1, q3, q4, q19, q20, q21, qH⟩
      rw [nf_of qH]
      simp [q1, q3, q4, q19, q20, q21]
      refine ⟨fun hlt => ?_, fun hge => ?_⟩
      · have hw : IntKind.i64.wrap (j + 1) = j + 1 := wrap_id (by omega) (by omega)
        obtain ⟨x, hx⟩ := get_some hlt
        have hgt := freeL_get (n := g.length) (f := f) (x := j) (by omega) (by omega)
        simp at hgt
        have hll := liveG_len g f j
        simp [hx, hw, q1, q3, q4, q19, q20, q21, hgt]
        refine ⟨hlt, fun h => ?_, fun h => ?_⟩
        · simp [liveG, h, hlt]
        · refine ⟨by omega, hlt, ?_⟩; simp [liveG, h, hx]
      · obtain rfl : j = g.length := by omega
        simp [q1, q3, q4, q19, q20, q21, entListF, hE]
  · simp [entListF, hE]
end Go.Proofs.YtloodkhdngipbaaT
