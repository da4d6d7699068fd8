/- Marks on worlds, and what is held of them. -/
import Derived.Test.YtmedelmfkciblaaKx1
import Derived.Test.YtmedelmfkciblaaKf
namespace Go.Proofs.YtmedelmfkciblaaT
set_option linter.unusedVariables false
set_option linter.unusedSimpArgs false
open Go

/- laws.markValSS -/
def c163 : TCode := (.seq (.ops [⟨(some 4), 6, .mv (.c (.i .i64 0)), none, []⟩])
  (.seq (.seq (.ops [⟨(some 5), 7, .mv (.c (.i .i64 0)), none, []⟩])
  (.block 0 (.loop (.seq (.seq (.ops [⟨(some 6), 8, .mv (.t 5), none, []⟩, ⟨(some 7), 9, .mv (.t 0), none, []⟩, ⟨(some 8), 10, .len false (.t 7), none, []⟩, ⟨(some 9), 11, .bin .lss (.t 6) (.t 8), none, []⟩])
  (.cond (.t 9)
  .skip
  (.exit 0)))
  (.seq (.block 1 (.ops [⟨(some 12), 14, .mv (.t 0), none, []⟩, ⟨(some 13), 15, .mv (.t 5), none, []⟩, ⟨(some 14), 16, .iaddr 1 (.t 12) (.t 13), none, []⟩, ⟨(some 15), 17, .load false 1 (.t 14), none, []⟩, ⟨(some 16), 18, .mv (.t 1), none, []⟩, ⟨(some 17), 19, .call 113 [((.t 15), 0), ((.t 16), 0)], none, []⟩, ⟨(some 1), 3, .mv (.t 17), none, []⟩]))
  (.ops [⟨(some 10), 12, .mv (.t 5), none, []⟩, ⟨(some 11), 13, .bin .add (.t 10) (.c (.i .i64 1)), none, []⟩, ⟨(some 5), 7, .mv (.t 11), none, []⟩]))))))
  (.seq (.ops [⟨(some 18), 20, .mv (.t 1), none, []⟩, ⟨(some 4), 6, .mv (.t 18), none, []⟩])
  .ret)))
theorem k163 : compCode Try.prog Try.f163.ntmps Try.f163.body.get! = some c163 := by kernel_rfl
theorem r163 : resTmps Try.prog Try.f163.results.toList = some [.tmp 4] := by kernel_rfl
/- laws.heldValSS -/
def c168 : TCode := (.seq (.ops [⟨(some 4), 6, .mv (.c (.i .i64 0)), none, []⟩])
  (.seq (.seq (.ops [⟨(some 5), 7, .mv (.c (.i .i64 0)), none, []⟩])
  (.block 0 (.loop (.seq (.seq (.ops [⟨(some 6), 8, .mv (.t 5), none, []⟩, ⟨(some 7), 9, .mv (.t 0), none, []⟩, ⟨(some 8), 10, .len false (.t 7), none, []⟩, ⟨(some 9), 11, .bin .lss (.t 6) (.t 8), none, []⟩])
  (.cond (.t 9)
  .skip
  (.exit 0)))
  (.seq (.block 1 (.seq (.ops [⟨(some 12), 14, .mv (.t 0), none, []⟩, ⟨(some 13), 15, .mv (.t 5), none, []⟩, ⟨(some 14), 16, .iaddr 1 (.t 12) (.t 13), none, []⟩, ⟨(some 15), 17, .load false 1 (.t 14), none, []⟩, ⟨(some 16), 18, .mv (.t 1), none, []⟩, ⟨(some 17), 19, .call 129 [((.t 15), 0), ((.t 16), 0)], none, []⟩, ⟨(some 1), 3, .mv (.t 17), none, []⟩])
  (.seq (.ops [⟨(some 18), 20, .mv (.t 1), none, []⟩, ⟨(some 19), 21, .bin .lss (.t 18) (.c (.i .i64 0)), none, []⟩])
  (.cond (.t 19)
  (.seq (.ops [⟨(some 4), 6, .mv (.c (.i .i64 (-1))), none, []⟩])
  .ret)
  .skip))))
  (.ops [⟨(some 10), 12, .mv (.t 5), none, []⟩, ⟨(some 11), 13, .bin .add (.t 10) (.c (.i .i64 1)), none, []⟩, ⟨(some 5), 7, .mv (.t 11), none, []⟩]))))))
  (.seq (.ops [⟨(some 20), 22, .mv (.t 1), none, []⟩, ⟨(some 4), 6, .mv (.t 20), none, []⟩])
  .ret)))
theorem k168 : compCode Try.prog Try.f168.ntmps Try.f168.body.get! = some c168 := by kernel_rfl
theorem r168 : resTmps Try.prog Try.f168.results.toList = some [.tmp 4] := by kernel_rfl
/- laws.markTableS -/
def c112 : TCode := (.seq (.ops [⟨(some 4), 6, .mv (.c (.i .i64 0)), none, []⟩])
  (.seq (.seq (.ops [⟨(some 5), 7, .mv (.c (.i .i64 0)), none, []⟩])
  (.block 0 (.loop (.seq (.seq (.ops [⟨(some 6), 8, .mv (.t 5), none, []⟩, ⟨(some 7), 9, .mv (.t 0), none, []⟩, ⟨(some 8), 10, .len false (.t 7), none, []⟩, ⟨(some 9), 11, .bin .lss (.t 6) (.t 8), none, []⟩])
  (.cond (.t 9)
  .skip
  (.exit 0)))
  (.seq (.block 1 (.seq (.ops [⟨(some 12), 14, .mv (.t 0), none, []⟩, ⟨(some 13), 15, .mv (.t 5), none, []⟩, ⟨(some 14), 16, .iaddr 3 (.t 12) (.t 13), none, []⟩, ⟨(some 15), 17, .faddr 0 1 (.t 14), none, []⟩, ⟨(some 16), 18, .load false 1 (.t 15), none, []⟩, ⟨(some 17), 19, .mv (.t 1), none, []⟩, ⟨(some 18), 20, .call 34 [((.t 16), 0), ((.t 17), 0)], none, []⟩, ⟨(some 1), 3, .mv (.t 18), none, []⟩])
  (.seq (.ops [⟨(some 19), 21, .mv (.t 0), none, []⟩, ⟨(some 20), 22, .mv (.t 5), none, []⟩, ⟨(some 21), 23, .iaddr 3 (.t 19) (.t 20), none, []⟩, ⟨(some 22), 24, .faddr 1 1 (.t 21), none, []⟩, ⟨(some 23), 25, .load false 1 (.t 22), none, []⟩, ⟨(some 24), 26, .mv (.t 1), none, []⟩, ⟨(some 25), 27, .call 57 [((.t 23), 0), ((.t 24), 0)], none, []⟩, ⟨(some 1), 3, .mv (.t 25), none, []⟩])
  (.ops [⟨(some 26), 28, .mv (.t 0), none, []⟩, ⟨(some 27), 29, .mv (.t 5), none, []⟩, ⟨(some 28), 30, .iaddr 3 (.t 26) (.t 27), none, []⟩, ⟨(some 29), 31, .faddr 2 1 (.t 28), none, []⟩, ⟨(some 30), 32, .load false 1 (.t 29), none, []⟩, ⟨(some 31), 33, .mv (.t 1), none, []⟩, ⟨(some 32), 34, .call 163 [((.t 30), 0), ((.t 31), 0)], none, []⟩, ⟨(some 1), 3, .mv (.t 32), none, []⟩]))))
  (.ops [⟨(some 10), 12, .mv (.t 5), none, []⟩, ⟨(some 11), 13, .bin .add (.t 10) (.c (.i .i64 1)), none, []⟩, ⟨(some 5), 7, .mv (.t 11), none, []⟩]))))))
  (.seq (.ops [⟨(some 33), 35, .mv (.t 1), none, []⟩, ⟨(some 4), 6, .mv (.t 33), none, []⟩])
  .ret)))
theorem k112 : compCode Try.prog Try.f112.ntmps Try.f112.body.get! = some c112 := by kernel_rfl
theorem r112 : resTmps Try.prog Try.f112.results.toList = some [.tmp 4] := by kernel_rfl
/- laws.heldTableS -/
def c128 : TCode := (.seq (.ops [⟨(some 4), 6, .mv (.c (.i .i64 0)), none, []⟩])
  (.seq (.seq (.ops [⟨(some 5), 7, .mv (.c (.i .i64 0)), none, []⟩])
  (.block 0 (.loop (.seq (.seq (.ops [⟨(some 6), 8, .mv (.t 5), none, []⟩, ⟨(some 7), 9, .mv (.t 0), none, []⟩, ⟨(some 8), 10, .len false (.t 7), none, []⟩, ⟨(some 9), 11, .bin .lss (.t 6) (.t 8), none, []⟩])
  (.cond (.t 9)
  .skip
  (.exit 0)))
  (.seq (.block 1 (.seq (.ops [⟨(some 12), 14, .mv (.t 0), none, []⟩, ⟨(some 13), 15, .mv (.t 5), none, []⟩, ⟨(some 14), 16, .iaddr 3 (.t 12) (.t 13), none, []⟩, ⟨(some 15), 17, .faddr 0 1 (.t 14), none, []⟩, ⟨(some 16), 18, .load false 1 (.t 15), none, []⟩, ⟨(some 17), 19, .mv (.t 1), none, []⟩, ⟨(some 18), 20, .call 35 [((.t 16), 0), ((.t 17), 0)], none, []⟩, ⟨(some 1), 3, .mv (.t 18), none, []⟩])
  (.seq (.seq (.ops [⟨(some 19), 21, .mv (.t 1), none, []⟩, ⟨(some 20), 22, .bin .lss (.t 19) (.c (.i .i64 0)), none, []⟩])
  (.cond (.t 20)
  (.seq (.ops [⟨(some 4), 6, .mv (.c (.i .i64 (-1))), none, []⟩])
  .ret)
  .skip))
  (.seq (.ops [⟨(some 21), 23, .mv (.t 0), none, []⟩, ⟨(some 22), 24, .mv (.t 5), none, []⟩, ⟨(some 23), 25, .iaddr 3 (.t 21) (.t 22), none, []⟩, ⟨(some 24), 26, .faddr 1 1 (.t 23), none, []⟩, ⟨(some 25), 27, .load false 1 (.t 24), none, []⟩, ⟨(some 26), 28, .mv (.t 1), none, []⟩, ⟨(some 27), 29, .call 58 [((.t 25), 0), ((.t 26), 0)], none, []⟩, ⟨(some 1), 3, .mv (.t 27), none, []⟩])
  (.seq (.seq (.ops [⟨(some 28), 30, .mv (.t 1), none, []⟩, ⟨(some 29), 31, .bin .lss (.t 28) (.c (.i .i64 0)), none, []⟩])
  (.cond (.t 29)
  (.seq (.ops [⟨(some 4), 6, .mv (.c (.i .i64 (-1))), none, []⟩])
  .ret)
  .skip))
  (.seq (.ops [⟨(some 30), 32, .mv (.t 0), none, []⟩, ⟨(some 31), 33, .mv (.t 5), none, []⟩, ⟨(some 32), 34, .iaddr 3 (.t 30) (.t 31), none, []⟩, ⟨(some 33), 35, .faddr 2 1 (.t 32), none, []⟩, ⟨(some 34), 36, .load false 1 (.t 33), none, []⟩, ⟨(some 35), 37, .mv (.t 1), none, []⟩, ⟨(some 36), 38, .call 168 [((.t 34), 0), ((.t 35), 0)], none, []⟩, ⟨(some 1), 3, .mv (.t 36), none, []⟩])
  (.seq (.ops [⟨(some 37), 39, .mv (.t 1), none, []⟩, ⟨(some 38), 40, .bin .lss (.t 37) (.c (.i .i64 0)), none, []⟩])
  (.cond (.t 38)
  (.seq (.ops [⟨(some 4), 6, .mv (.c (.i .i64 (-1))), none, []⟩])
  .ret)
  .skip))))))))
  (.ops [⟨(some 10), 12, .mv (.t 5), none, []⟩, ⟨(some 11), 13, .bin .add (.t 10) (.c (.i .i64 1)), none, []⟩, ⟨(some 5), 7, .mv (.t 11), none, []⟩]))))))
  (.seq (.ops [⟨(some 39), 41, .mv (.t 1), none, []⟩, ⟨(some 4), 6, .mv (.t 39), none, []⟩])
  .ret)))
theorem k128 : compCode Try.prog Try.f128.ntmps Try.f128.body.get! = some c128 := by kernel_rfl
theorem r128 : resTmps Try.prog Try.f128.results.toList = some [.tmp 4] := by kernel_rfl
/- laws.markWorld -/
def c56 : TCode := (.seq (.ops [⟨(some 2), 4, .box 4 (.t 0), none, []⟩, ⟨(some 4), 6, .mv (.c (.i .i64 0)), none, []⟩])
  (.seq (.ops [⟨(some 5), 7, .faddr 0 2 (.t 2), none, []⟩, ⟨(some 6), 8, .load true 2 (.t 5), none, []⟩, ⟨(some 7), 9, .mv (.t 1), none, []⟩, ⟨(some 8), 10, .call 111 [((.t 6), 0), ((.t 7), 0)], none, []⟩, ⟨(some 1), 3, .mv (.t 8), none, []⟩])
  (.seq (.ops [⟨(some 9), 11, .faddr 2 1 (.t 2), none, []⟩, ⟨(some 10), 12, .load false 1 (.t 9), none, []⟩, ⟨(some 11), 13, .mv (.t 1), none, []⟩, ⟨(some 12), 14, .call 112 [((.t 10), 0), ((.t 11), 0)], none, []⟩, ⟨(some 1), 3, .mv (.t 12), none, []⟩])
  (.seq (.ops [⟨(some 13), 15, .faddr 3 1 (.t 2), none, []⟩, ⟨(some 14), 16, .load false 1 (.t 13), none, []⟩, ⟨(some 15), 17, .mv (.t 1), none, []⟩, ⟨(some 16), 18, .call 113 [((.t 14), 0), ((.t 15), 0)], none, []⟩, ⟨(some 1), 3, .mv (.t 16), none, []⟩])
  (.seq (.ops [⟨(some 17), 19, .mv (.t 1), none, []⟩, ⟨(some 4), 6, .mv (.t 17), none, []⟩])
  .ret)))))
theorem k56 : compCode Try.prog Try.f56.ntmps Try.f56.body.get! = some c56 := by kernel_rfl
theorem r56 : resTmps Try.prog Try.f56.results.toList = some [.tmp 4] := by kernel_rfl
/- laws.heldWorld -/
def c67 : TCode := (.seq (.ops [⟨(some 2), 4, .box 4 (.t 0), none, []⟩, ⟨(some 4), 6, .mv (.c (.i .i64 0)), none, []⟩])
  (.seq (.ops [⟨(some 5), 7, .faddr 0 2 (.t 2), none, []⟩, ⟨(some 6), 8, .load true 2 (.t 5), none, []⟩, ⟨(some 7), 9, .mv (.t 1), none, []⟩, ⟨(some 8), 10, .call 127 [((.t 6), 0), ((.t 7), 0)], none, []⟩, ⟨(some 1), 3, .mv (.t 8), none, []⟩])
  (.seq (.seq (.ops [⟨(some 9), 11, .mv (.t 1), none, []⟩, ⟨(some 10), 12, .bin .lss (.t 9) (.c (.i .i64 0)), none, []⟩])
  (.cond (.t 10)
  (.seq (.ops [⟨(some 4), 6, .mv (.c (.i .i64 (-1))), none, []⟩])
  .ret)
  .skip))
  (.seq (.ops [⟨(some 11), 13, .faddr 2 1 (.t 2), none, []⟩, ⟨(some 12), 14, .load false 1 (.t 11), none, []⟩, ⟨(some 13), 15, .mv (.t 1), none, []⟩, ⟨(some 14), 16, .call 128 [((.t 12), 0), ((.t 13), 0)], none, []⟩, ⟨(some 1), 3, .mv (.t 14), none, []⟩])
  (.seq (.seq (.ops [⟨(some 15), 17, .mv (.t 1), none, []⟩, ⟨(some 16), 18, .bin .lss (.t 15) (.c (.i .i64 0)), none, []⟩])
  (.cond (.t 16)
  (.seq (.ops [⟨(some 4), 6, .mv (.c (.i .i64 (-1))), none, []⟩])
  .ret)
  .skip))
  (.seq (.ops [⟨(some 17), 19, .faddr 3 1 (.t 2), none, []⟩, ⟨(some 18), 20, .load false 1 (.t 17), none, []⟩, ⟨(some 19), 21, .mv (.t 1), none, []⟩, ⟨(some 20), 22, .call 129 [((.t 18), 0), ((.t 19), 0)], none, []⟩, ⟨(some 1), 3, .mv (.t 20), none, []⟩])
  (.seq (.seq (.ops [⟨(some 21), 23, .mv (.t 1), none, []⟩, ⟨(some 22), 24, .bin .lss (.t 21) (.c (.i .i64 0)), none, []⟩])
  (.cond (.t 22)
  (.seq (.ops [⟨(some 4), 6, .mv (.c (.i .i64 (-1))), none, []⟩])
  .ret)
  .skip))
  (.seq (.ops [⟨(some 23), 25, .mv (.t 1), none, []⟩, ⟨(some 4), 6, .mv (.t 23), none, []⟩])
  .ret))))))))
theorem k67 : compCode Try.prog Try.f67.ntmps Try.f67.body.get! = some c67 := by kernel_rfl
theorem r67 : resTmps Try.prog Try.f67.results.toList = some [.tmp 4] := by kernel_rfl

/-! ### rows that are marked, one behind the other -/
def mkR {α β : Type} (f : Int → α → β) (n : α → Nat) : Int → List α → List β
  | _, [] => []
  | k, x :: l => f k x :: mkR f n (k + n x) l
section
variable {α β : Type} {f : Int → α → β} {n : α → Nat}
@[simp] theorem mkR_len : ∀ (k : Int) (l : List α), (mkR f n k l).length = l.length
  | _, [] => rfl
  | k, x :: l => by simp [mkR, mkR_len _ l]
theorem mkR_snoc (x : α) : ∀ (k : Int) (l : List α), mkR f n k (l ++ [x]) = mkR f n k l ++ [f (k + sumN n l) x]
  | k, [] => by simp [mkR, sumN]
  | k, y :: l => by simp [mkR, mkR_snoc x _ l, sumN, Int.add_assoc]
theorem mkR_get {x : α} : ∀ {j : Nat} (k : Int) {l : List α}, l[j]? = some x → (mkR f n k l)[j]? = some (f (k + sumN n (l.take j)) x)
  | 0, k, y :: l, h => by simp at h; subst h; simp [mkR, sumN]
  | j + 1, k, y :: l, h => by
    simp at h
    simp only [mkR, List.getElem?_cons_succ, List.take_succ_cons, sumN]
    rw [mkR_get (k + n y) h]
    congr 2; omega
  | 0, k, [], h => by simp at h
  | j + 1, k, [], h => by simp at h
theorem mkR_take {x : α} {j : Nat} {l : List α} (k : Int) (h : l[j]? = some x) : mkR f n k (l.take (j + 1)) = mkR f n k (l.take j) ++ [f (k + sumN n (l.take j)) x] := by
  rw [take_snoc h, mkR_snoc]
theorem sumN_at {x : α} {j : Nat} {l : List α} (h : l[j]? = some x) : sumN n (l.take (j + 1)) = sumN n (l.take j) + n x := by
  rw [take_snoc h, sumN_snoc]
end
def nV (v : List ValP) : Nat := 4 * v.length
def mkVs (k : Int) (v : List ValP) : List ValP := mkL 4 mkV k v.length
theorem w163 (l : List (List ValP)) (k : Int) (hl : l.length ≤ 2^36) (hd : ∀ v ∈ l, v.length ≤ 2^36) (hk : 0 ≤ k) (hk2 : k + sumN nV l ≤ 2^40) : Contract Try.prog false 163 [.own, .ro] [.sl true 1 (l.map cvO), .i .i64 k] [.i .i64 (k + sumN nV l)] [some (.sl true 1 ((mkR mkVs nV k l).map cvO))] := by
  refine mk_contract [some [(1, 0)]] Try.func163 (c := Try.f163.body.get!) (by kernel_rfl) k163 r163 (of_decide_eq_true rfl) fun _ => ?_
  unfold c163; simp
  refine twp_for l.length (fun j s => s.t 0 = .rf [(1, 0)] 0 l.length ∧ s.t 1 = .i .i64 (k + sumN nV (l.take j)) ∧ s.t 5 = .i .i64 j ∧ s.H = lk [(1, [.sl true 1 ((mkR mkVs nV k (l.take j)).map cvO ++ (l.map cvO).drop j)])]) [] (by simp) ?_ ?_
  · simp [mkR, sumN]
  · rintro j s hj ⟨q0, q1, q5, qH⟩
    rw [nf_of qH]
    simp [q0, q1, q5]
    refine ⟨fun hlt => ?_, fun hge => ?_⟩
    · have hw : IntKind.i64.wrap (j + 1) = j + 1 := wrap_id (by omega) (by omega)
      obtain ⟨x, hx⟩ := get_some hlt
      have hmin : min j l.length = j := by omega
      have hs : sumN nV (l.take (j + 1)) = sumN nV (l.take j) + 4 * x.length := sumN_at hx
      have hle := sumN_take nV l (j + 1)
      have hxl := hd x (List.mem_of_getElem? hx)
      simp [hw, q0, q1, q5, drop_at hx, hmin]
      refine ⟨hlt, ?_⟩
      refine callW_ms [.own, .ro] ?_
      simp [hmin]
      refine callX_of (w113 x (k + sumN nV (l.take j)) hxl (by omega) (by omega)) (by simp) ?_
      simp [hw, q0, q1, q5, hmin, mkR_take k hx, hs, mkVs]
      omega
    · obtain rfl : j = l.length := by omega
      simp [q0, q1, q5]
theorem w168 (l : List (List ValP)) (k : Int) (hl : l.length ≤ 2^36) (hd : ∀ v ∈ l, v.length ≤ 2^36) (hk : 0 ≤ k) (hk2 : k + sumN nV l ≤ 2^40) : Contract Try.prog false 168 [.ro, .ro] [.sl false 1 ((mkR mkVs nV k l).map cvT), .i .i64 k] [.i .i64 (k + sumN nV l)] [] := by
  refine mk_contract [] Try.func168 (c := Try.f168.body.get!) (by kernel_rfl) k168 r168 (of_decide_eq_true rfl) fun _ => ?_
  unfold c168; simp
  refine twp_for l.length (fun j s => s.t 0 = .sl false 1 ((mkR mkVs nV k l).map cvT) ∧ s.t 1 = .i .i64 (k + sumN nV (l.take j)) ∧ s.t 5 = .i .i64 j ∧ s.H = lk [(1, [])]) [] (by simp) ?_ ?_
  · simp [sumN]
  · rintro j s hj ⟨q0, q1, q5, qH⟩
    rw [nf_of qH]
    simp [q0, q1, q5]
    refine ⟨fun hlt => ?_, fun hge => ?_⟩
    · have hw : IntKind.i64.wrap (j + 1) = j + 1 := wrap_id (by omega) (by omega)
      obtain ⟨x, hx⟩ := get_some hlt
      have hs : sumN nV (l.take (j + 1)) = sumN nV (l.take j) + 4 * x.length := sumN_at hx
      have hle := sumN_take nV l (j + 1)
      have hxl := hd x (List.mem_of_getElem? hx)
      simp [hw, q0, q1, q5, mkR_get k hx, mkVs]
      refine callW_ms [.ro, .ro] ?_
      simp
      refine callX_of (w129 x.length (k + sumN nV (l.take j)) hxl (by omega) (by omega)) (by simp) ?_
      simp [hw, q0, q1, q5, hs]
      omega
    · obtain rfl : j = l.length := by omega
      simp [q0, q1, q5]
def nTb (t : TableP) : Nat := t.1.length + 2 * t.2.1.length + sumN nV t.2.2
def mkE (k : Int) : Int × Int := (k, k + 1)
def mkTb (k : Int) (t : TableP) : TableP := (cnt k t.1.length, mkL 2 (fun k => (k, k + 1)) (k + t.1.length) t.2.1.length, mkR mkVs nV (k + t.1.length + 2 * t.2.1.length) t.2.2)
theorem w112 (l : List TableP) (k : Int) (hl : l.length ≤ 2^36) (hd : ∀ t ∈ l, okT t) (hk : 0 ≤ k) (hk2 : k + sumN nTb l ≤ 2^40) : Contract Try.prog false 112 [.own, .ro] [.sl true 3 (l.map tbO), .i .i64 k] [.i .i64 (k + sumN nTb l)] [some (.sl true 3 ((mkR mkTb nTb k l).map tbO))] := by
  refine mk_contract [some [(1, 0)]] Try.func112 (c := Try.f112.body.get!) (by kernel_rfl) k112 r112 (of_decide_eq_true rfl) fun _ => ?_
  unfold c112; simp
  refine twp_for l.length (fun j s => s.t 0 = .rf [(1, 0)] 0 l.length ∧ s.t 1 = .i .i64 (k + sumN nTb (l.take j)) ∧ s.t 5 = .i .i64 j ∧ s.H = lk [(1, [.sl true 3 ((mkR mkTb nTb k (l.take j)).map tbO ++ (l.map tbO).drop j)])]) [] (by simp) ?_ ?_
  · simp [mkR, sumN]
  · rintro j s hj ⟨q0, q1, q5, qH⟩
    rw [nf_of qH]
    simp [q0, q1, q5]
    refine ⟨fun hlt => ?_, fun hge => ?_⟩
    · have hw : IntKind.i64.wrap (j + 1) = j + 1 := wrap_id (by omega) (by omega)
      obtain ⟨x, hx⟩ := get_some hlt
      have hmin : min j l.length = j := by omega
      have hs : sumN nTb (l.take (j + 1)) = sumN nTb (l.take j) + (x.1.length + 2 * x.2.1.length + sumN nV x.2.2) := sumN_at hx
      have hle := sumN_take nTb l (j + 1)
      obtain ⟨h1, h2, h3, h4⟩ := hd x (List.mem_of_getElem? hx)
      simp [hw, q0, q1, q5, drop_at hx, hmin]
      refine ⟨hlt, ?_⟩
      refine callW_ms [.own, .ro] ?_
      simp [hmin]
      refine callX_of (w34 x.1 (k + sumN nTb (l.take j)) (by omega) (by omega) (by omega)) (by simp) ?_
      simp [hw, q0, q1, q5, hmin]
      refine ⟨hlt, ?_⟩
      refine callW_ms [.own, .ro] ?_
      simp [hmin]
      refine callX_of (w57 x.2.1 (k + sumN nTb (l.take j) + x.1.length) (by omega) (by omega) (by omega)) (by simp) ?_
      simp [hw, q0, q1, q5, hmin]
      refine ⟨hlt, ?_⟩
      refine callW_ms [.own, .ro] ?_
      simp [hmin]
      refine callX_of (w163 x.2.2 (k + sumN nTb (l.take j) + x.1.length + 2 * x.2.1.length) (by omega) h4 (by omega) (by omega)) (by simp) ?_
      simp [hw, q0, q1, q5, hmin, mkR_take k hx, hs, mkTb]
      omega
    · obtain rfl : j = l.length := by omega
      simp [q0, q1, q5]
theorem w128 (l : List TableP) (k : Int) (hl : l.length ≤ 2^36) (hd : ∀ t ∈ l, okT t) (hk : 0 ≤ k) (hk2 : k + sumN nTb l ≤ 2^40) : Contract Try.prog false 128 [.ro, .ro] [.sl false 3 ((mkR mkTb nTb k l).map tbT), .i .i64 k] [.i .i64 (k + sumN nTb l)] [] := by
  refine mk_contract [] Try.func128 (c := Try.f128.body.get!) (by kernel_rfl) k128 r128 (of_decide_eq_true rfl) fun _ => ?_
  unfold c128; simp
  refine twp_for l.length (fun j s => s.t 0 = .sl false 3 ((mkR mkTb nTb k l).map tbT) ∧ s.t 1 = .i .i64 (k + sumN nTb (l.take j)) ∧ s.t 5 = .i .i64 j ∧ s.H = lk [(1, [])]) [] (by simp) ?_ ?_
  · simp [sumN]
  · rintro j s hj ⟨q0, q1, q5, qH⟩
    rw [nf_of qH]
    simp [q0, q1, q5]
    refine ⟨fun hlt => ?_, fun hge => ?_⟩
    · have hw : IntKind.i64.wrap (j + 1) = j + 1 := wrap_id (by omega) (by omega)
      obtain ⟨x, hx⟩ := get_some hlt
      have hs : sumN nTb (l.take (j + 1)) = sumN nTb (l.take j) + (x.1.length + 2 * x.2.1.length + sumN nV x.2.2) := sumN_at hx
      have hle := sumN_take nTb l (j + 1)
      obtain ⟨h1, h2, h3, h4⟩ := hd x (List.mem_of_getElem? hx)
      have hn1 : ¬ (k + sumN nTb (l.take j) + x.1.length < 0) := by omega
      have hn2 : ¬ (k + sumN nTb (l.take j) + x.1.length + 2 * x.2.1.length < 0) := by omega
      have hn3 : ¬ (k + sumN nTb (l.take j) + x.1.length + 2 * x.2.1.length + sumN nV x.2.2 < 0) := by omega
      simp [hw, q0, q1, q5, mkR_get k hx, mkTb]
      refine callW_ms [.ro, .ro] ?_
      simp
      refine callX_of (w35 (cnt (k + sumN nTb (l.take j)) x.1.length) (k + sumN nTb (l.take j)) (by simp; omega) (by omega) (by omega)) (by simp) ?_
      simp [hw, q0, q1, q5, hn1, mkR_get k hx, mkTb]
      refine callW_ms [.ro, .ro] ?_
      simp
      refine callX_of (w58 x.2.1.length (k + sumN nTb (l.take j) + x.1.length) (by omega) (by omega) (by omega)) (by simp) ?_
      simp [hw, q0, q1, q5, hn2, mkR_get k hx, mkTb]
      refine callW_ms [.ro, .ro] ?_
      simp
      refine callX_of (w168 x.2.2 (k + sumN nTb (l.take j) + x.1.length + 2 * x.2.1.length) (by omega) h4 (by omega) (by omega)) (by simp) ?_
      simp [hw, q0, q1, q5, hn3, hs]
      omega
    · obtain rfl : j = l.length := by omega
      simp [q0, q1, q5]
def nW (w : WorldP) : Nat := w.1.length + w.2.1.length + sumN nTb w.2.2.1 + 4 * w.2.2.2.length
def mkW (k : Int) (w : WorldP) : WorldP := (cnt k w.1.length, cnt (k + w.1.length) w.2.1.length, mkR mkTb nTb (k + w.1.length + w.2.1.length) w.2.2.1, mkL 4 mkV (k + w.1.length + w.2.1.length + sumN nTb w.2.2.1) w.2.2.2.length)
@[simp] theorem mkW_1 (k : Int) (w : WorldP) : (mkW k w).1.length = w.1.length := by simp [mkW]
@[simp] theorem mkW_2 (k : Int) (w : WorldP) : (mkW k w).2.1.length = w.2.1.length := by simp [mkW]
@[simp] theorem mkW_3 (k : Int) (w : WorldP) : (mkW k w).2.2.1.length = w.2.2.1.length := by simp [mkW]
@[simp] theorem mkW_4 (k : Int) (w : WorldP) : (mkW k w).2.2.2.length = w.2.2.2.length := by simp [mkW]
theorem w56 (w : WorldP) (k : Int) (h : okW w) (hk : 0 ≤ k) (hk2 : k + nW w ≤ 2^30) : Contract Try.prog false 56 [.own, .ro] [worldO w.1 w.2.1 w.2.2.1 w.2.2.2, .i .i64 k] [.i .i64 (k + nW w)] [some (.sl true 1 ((mkW k w).1.map iT)), some (.sl true 1 ((mkW k w).2.1.map iT)), some (.sl true 3 ((mkW k w).2.2.1.map tbO)), some (.sl true 4 ((mkW k w).2.2.2.map vT))] := by
  refine mk_contract [some [(4, 0), (0, 0)], some [(4, 0), (0, 1)], some [(4, 0), (0, 2)], some [(4, 0), (0, 3)]] Try.func56 (c := Try.f56.body.get!) (by kernel_rfl) k56 r56 (of_decide_eq_true rfl) fun _ => ?_
  obtain ⟨h1, h2, ⟨h3, h4⟩, h5⟩ := h
  obtain ⟨g, f, ts, rs⟩ := w
  simp only [nW, mkW] at h1 h2 h3 h4 h5 hk2 ⊢
  unfold c56; simp
  refine callW_ms [.own, .ro] ?_
  simp
  refine callX_of (w111 g f k (by omega) (by omega) hk (by omega)) (by simp) ?_
  simp [entsO]
  refine callW_ms [.own, .ro] ?_
  simp
  refine callX_of (w112 ts (k + g.length + f.length) h3 h4 (by omega) (by omega)) (by simp) ?_
  simp
  refine callW_ms [.own, .ro] ?_
  simp
  refine callX_of (w113 rs (k + g.length + f.length + sumN nTb ts) (by omega) (by omega) (by omega)) (by simp) ?_
  simp
  omega
theorem w67 (w : WorldP) (k : Int) (h : okW w) (hk : 0 ≤ k) (hk2 : k + nW w ≤ 2^30) : Contract Try.prog false 67 [.ro, .ro] [worldR (mkW k w).1 (mkW k w).2.1 (mkW k w).2.2.1 (mkW k w).2.2.2, .i .i64 k] [.i .i64 (k + nW w)] [] := by
  refine mk_contract [] Try.func67 (c := Try.f67.body.get!) (by kernel_rfl) k67 r67 (of_decide_eq_true rfl) fun _ => ?_
  obtain ⟨h1, h2, ⟨h3, h4⟩, h5⟩ := h
  obtain ⟨g, f, ts, rs⟩ := w
  simp only [nW, mkW] at h1 h2 h3 h4 h5 hk2 ⊢
  have hn1 : ¬ (k + g.length + f.length < 0) := by omega
  have hn2 : ¬ (k + g.length + f.length + sumN nTb ts < 0) := by omega
  have hn3 : ¬ (k + g.length + f.length + sumN nTb ts + 4 * rs.length < 0) := by omega
  unfold c67; simp
  refine callW_ms [.ro, .ro] ?_
  simp [entsR]
  refine callX_of (w127 g.length f.length k (by omega) (by omega) hk (by omega)) (by simp) ?_
  simp [hn1]
  refine callW_ms [.ro, .ro] ?_
  simp
  refine callX_of (w128 ts (k + g.length + f.length) h3 h4 (by omega) (by omega)) (by simp) ?_
  simp [hn2]
  refine callW_ms [.ro, .ro] ?_
  simp
  refine callX_of (w129 rs.length (k + g.length + f.length + sumN nTb ts) (by omega) (by omega) (by omega)) (by simp) ?_
  simp [hn3]
  omega
theorem sumN_le {α : Type} {c d : α → Nat} (h : ∀ x, c x ≤ d x) (l : List α) : sumN c l ≤ sumN d l := by
  induction l with
  | nil => simp [sumN]
  | cons x l ih => have := h x; simp only [sumN]; omega
theorem sumN_mul {α : Type} (m : Nat) (c : α → Nat) (l : List α) : sumN (fun x => m * c x) l = m * sumN c l := by
  induction l with
  | nil => simp [sumN]
  | cons x l ih => simp only [sumN, ih, Nat.mul_add]
theorem nTb_le (t : TableP) : nTb t ≤ 4 * cT t := by
  have : sumN nV t.2.2 = 4 * sumN (fun v : List ValP => v.length) t.2.2 := sumN_mul 4 (fun v : List ValP => v.length) t.2.2
  unfold nTb cT; omega
theorem nW_le (w : WorldP) : nW w ≤ 4 * cW w := by
  have h1 := sumN_le nTb_le w.2.2.1
  rw [sumN_mul] at h1
  unfold nW cW; omega
end Go.Proofs.YtmedelmfkciblaaT
