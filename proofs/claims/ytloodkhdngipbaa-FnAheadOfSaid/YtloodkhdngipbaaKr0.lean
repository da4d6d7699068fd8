/- Bytes and draws. -/
import Derived.Test.YtloodkhdngipbaaKa
namespace Go.Proofs.YtloodkhdngipbaaT
set_option linter.unusedVariables false
set_option linter.unusedSimpArgs false
open Go

/- laws.big -/
def c32 : TCode := (.seq (.ops [⟨(some 2), 4, .mv (.c (.b false)), none, []⟩])
  (.seq (.ops [⟨(some 3), 5, .mv (.t 0), none, []⟩, ⟨(some 4), 6, .len false (.t 3), none, []⟩, ⟨(some 5), 7, .bin .gtr (.t 4) (.c (.i .i64 1048576)), none, []⟩, ⟨(some 2), 4, .mv (.t 5), none, []⟩])
  .ret))
theorem k32 : compCode Try.prog Try.f32.ntmps Try.f32.body.get! = some c32 := by kernel_rfl
theorem r32 : resTmps Try.prog Try.f32.results.toList = some [.tmp 2] := by kernel_rfl
/- laws.at -/
def c33 : TCode := (.seq (.ops [⟨(some 4), 6, .mv (.c (.i .i64 0)), none, []⟩])
  (.seq (.seq (.ops [⟨(some 5), 7, .mv (.t 1), none, []⟩, ⟨(some 6), 8, .mv (.t 0), none, []⟩, ⟨(some 7), 9, .len false (.t 6), none, []⟩, ⟨(some 8), 10, .bin .lss (.t 5) (.t 7), none, []⟩])
  (.cond (.t 8)
  (.seq (.ops [⟨(some 9), 11, .mv (.t 0), none, []⟩, ⟨(some 10), 12, .mv (.t 1), none, []⟩, ⟨(some 11), 13, .iaddr 1 (.t 9) (.t 10), none, []⟩, ⟨(some 12), 14, .load false 1 (.t 11), none, []⟩, ⟨(some 13), 15, .toInt .i64 (.t 12), none, []⟩, ⟨(some 4), 6, .mv (.t 13), none, []⟩])
  .ret)
  .skip))
  (.seq (.ops [⟨(some 14), 16, .mv (.t 1), none, []⟩, ⟨(some 15), 17, .bin .mul (.t 14) (.c (.i .i64 7)), none, []⟩, ⟨(some 16), 18, .mv (.t 0), none, []⟩, ⟨(some 17), 19, .len false (.t 16), none, []⟩, ⟨(some 18), 20, .bin .add (.t 15) (.t 17), none, []⟩, ⟨(some 19), 21, .bin .rem (.t 18) (.c (.i .i64 256)), none, []⟩, ⟨(some 4), 6, .mv (.t 19), none, []⟩])
  .ret)))
theorem k33 : compCode Try.prog Try.f33.ntmps Try.f33.body.get! = some c33 := by kernel_rfl
theorem r33 : resTmps Try.prog Try.f33.results.toList = some [.tmp 4] := by kernel_rfl
/- spec.l1New -/
def c83 : TCode := (.seq (.ops [⟨(some 2), 4, .mv (.c .np), none, []⟩])
  (.seq (.ops [⟨(some 5), 7, .mv (.t 0), none, []⟩, ⟨(some 6), 8, .len false (.t 5), none, []⟩, ⟨(some 7), 9, .bin .add (.c (.i .i64 70070)) (.t 6), none, []⟩, ⟨(some 3), 5, .mv (.t 7), none, []⟩])
  (.seq (.seq (.ops [⟨(some 4), 6, .mv (.c (.i .i64 0)), none, []⟩])
  (.block 0 (.loop (.seq (.seq (.ops [⟨(some 8), 10, .mv (.t 4), none, []⟩, ⟨(some 9), 11, .mv (.t 0), none, []⟩, ⟨(some 10), 12, .len false (.t 9), none, []⟩, ⟨(some 11), 13, .bin .lss (.t 8) (.t 10), none, []⟩, ⟨(some 12), 14, .mv (.t 11), none, []⟩, ⟨(some 13), 15, .mv (.t 4), (some (12, true)), []⟩, ⟨(some 14), 16, .bin .lss (.t 13) (.c (.i .i64 4000)), (some (12, true)), []⟩, ⟨(some 15), 17, .pick (.t 12) (.t 14) (.c (.b false)), none, []⟩])
  (.cond (.t 15)
  .skip
  (.exit 0)))
  (.seq (.block 1 (.ops [⟨(some 18), 20, .mv (.t 3), none, []⟩, ⟨(some 19), 21, .bin .mul (.t 18) (.c (.i .i64 131)), none, []⟩, ⟨(some 20), 22, .mv (.t 0), none, []⟩, ⟨(some 21), 23, .mv (.t 4), none, []⟩, ⟨(some 22), 24, .iaddr 1 (.t 20) (.t 21), none, []⟩, ⟨(some 23), 25, .load false 1 (.t 22), none, []⟩, ⟨(some 24), 26, .toInt .i64 (.t 23), none, []⟩, ⟨(some 25), 27, .bin .add (.t 19) (.t 24), none, []⟩, ⟨(some 26), 28, .bin .add (.t 25) (.c (.i .i64 7)), none, []⟩, ⟨(some 27), 29, .bin .and (.t 26) (.c (.i .i64 1073741823)), none, []⟩, ⟨(some 3), 5, .mv (.t 27), none, []⟩]))
  (.ops [⟨(some 16), 18, .mv (.t 4), none, []⟩, ⟨(some 17), 19, .bin .add (.t 16) (.c (.i .i64 1)), none, []⟩, ⟨(some 4), 6, .mv (.t 17), none, []⟩]))))))
  (.seq (.ops [⟨(some 28), 30, .mv (.t 0), none, []⟩, ⟨(some 29), 31, .mv (.t 3), none, []⟩, ⟨(some 30), 32, .build [(.sl true 1 []), (.i .i64 0), (.i .i64 0)] [(0, 1, (.t 28)), (2, 1, (.t 29))], none, []⟩, ⟨(some 31), 33, .box 3 (.t 30), none, []⟩, ⟨(some 2), 4, .mv (.t 31), none, []⟩])
  .ret))))
theorem k83 : compCode Try.prog Try.f83.ntmps Try.f83.body.get! = some c83 := by kernel_rfl
theorem r83 : resTmps Try.prog Try.f83.results.toList = some [.tmp 2] := by kernel_rfl
/- spec.l1Byte -/
def c133 : TCode := (.seq (.ops [⟨(some 2), 4, .mv (.c (.i .i64 0)), none, []⟩])
  (.seq (.ops [⟨(some 4), 6, .mv (.t 0), none, []⟩, ⟨(some 5), 7, .mv (.t 0), none, []⟩, ⟨(some 6), 8, .nilck (.t 5), none, []⟩, ⟨(some 7), 9, .faddr 2 1 (.t 6), none, []⟩, ⟨(some 8), 10, .load false 1 (.t 7), none, []⟩, ⟨(some 9), 11, .bin .mul (.t 8) (.c (.i .i64 6364136223846793005)), none, []⟩, ⟨(some 10), 12, .bin .add (.t 9) (.c (.i .i64 1442695040888963407)), none, []⟩, ⟨(some 11), 13, .nilck (.t 4), none, []⟩, ⟨(some 12), 14, .faddr 2 1 (.t 11), none, []⟩, ⟨none, 1001009, .store 1 (.t 12) (.t 10), none, []⟩])
  (.seq (.draw [⟨(some 13), 15, .mv (.t 0), none, []⟩, ⟨(some 14), 16, .nilck (.t 13), none, []⟩, ⟨(some 15), 17, .faddr 2 1 (.t 14), none, []⟩, ⟨(some 16), 18, .load false 1 (.t 15), none, []⟩, ⟨(some 17), 19, .bin .shr (.t 16) (.c (.i .u64 33)), none, []⟩, ⟨(some 18), 20, .mv (.t 0), none, []⟩, ⟨(some 19), 21, .nilck (.t 18), none, []⟩, ⟨(some 20), 22, .faddr 2 1 (.t 19), none, []⟩, ⟨(some 21), 23, .load false 1 (.t 20), none, []⟩, ⟨(some 22), 24, .bin .shr (.t 21) (.c (.i .u64 45)), none, []⟩, ⟨(some 23), 25, .bin .xor (.t 17) (.t 22), none, []⟩, ⟨(some 24), 26, .bin .and (.t 23) (.c (.i .i64 255)), none, []⟩, ⟨(some 3), 5, .mv (.t 24), none, []⟩])
  (.seq (.seq (.draw [⟨(some 25), 27, .mv (.t 0), none, []⟩, ⟨(some 26), 28, .nilck (.t 25), none, []⟩, ⟨(some 27), 29, .faddr 1 1 (.t 26), none, []⟩, ⟨(some 28), 30, .load false 1 (.t 27), none, []⟩, ⟨(some 29), 31, .mv (.t 0), none, []⟩, ⟨(some 30), 32, .nilck (.t 29), none, []⟩, ⟨(some 31), 33, .faddr 0 1 (.t 30), none, []⟩, ⟨(some 32), 34, .load false 1 (.t 31), none, []⟩, ⟨(some 33), 35, .len false (.t 32), none, []⟩, ⟨(some 34), 36, .bin .lss (.t 28) (.t 33), none, []⟩])
  (.cond (.t 34)
  (.seq (.draw [⟨(some 35), 37, .mv (.t 3), none, []⟩, ⟨(some 36), 38, .mv (.t 0), none, []⟩, ⟨(some 37), 39, .nilck (.t 36), none, []⟩, ⟨(some 38), 40, .faddr 0 1 (.t 37), none, []⟩, ⟨(some 39), 41, .load false 1 (.t 38), none, []⟩, ⟨(some 40), 42, .mv (.t 0), none, []⟩, ⟨(some 41), 43, .nilck (.t 40), none, []⟩, ⟨(some 42), 44, .faddr 1 1 (.t 41), none, []⟩, ⟨(some 43), 45, .load false 1 (.t 42), none, []⟩, ⟨(some 44), 46, .iaddr 1 (.t 39) (.t 43), none, []⟩, ⟨(some 45), 47, .load false 1 (.t 44), none, []⟩, ⟨(some 46), 48, .toInt .i64 (.t 45), none, []⟩, ⟨(some 47), 49, .bin .add (.t 35) (.t 46), none, []⟩, ⟨(some 48), 50, .bin .and (.t 47) (.c (.i .i64 255)), none, []⟩, ⟨(some 3), 5, .mv (.t 48), none, []⟩])
  (.ops [⟨(some 49), 51, .mv (.t 0), none, []⟩, ⟨(some 50), 52, .mv (.t 0), none, []⟩, ⟨(some 51), 53, .nilck (.t 50), none, []⟩, ⟨(some 52), 54, .faddr 1 1 (.t 51), none, []⟩, ⟨(some 53), 55, .load false 1 (.t 52), none, []⟩, ⟨(some 54), 56, .bin .add (.t 53) (.c (.i .i64 1)), none, []⟩, ⟨(some 55), 57, .nilck (.t 49), none, []⟩, ⟨(some 56), 58, .faddr 1 1 (.t 55), none, []⟩, ⟨none, 1005008, .store 1 (.t 56) (.t 54), none, []⟩]))
  .skip))
  (.seq (.ops [⟨(some 57), 59, .mv (.t 3), none, []⟩, ⟨(some 2), 4, .mv (.t 57), none, []⟩])
  .ret)))))
theorem k133 : compCode Try.prog Try.f133.ntmps Try.f133.body.get! = some c133 := by kernel_rfl
theorem r133 : resTmps Try.prog Try.f133.results.toList = some [.tmp 2] := by kernel_rfl
/- spec.l1Below -/
def c85 : TCode := (.seq (.ops [⟨(some 4), 6, .mv (.c (.i .i64 0)), none, []⟩])
  (.seq (.seq (.ops [⟨(some 9), 11, .mv (.t 1), none, []⟩, ⟨(some 10), 12, .bin .leq (.t 9) (.c (.i .i64 0)), none, []⟩])
  (.cond (.t 10)
  (.seq (.ops [⟨(some 4), 6, .mv (.c (.i .i64 0)), none, []⟩])
  .ret)
  .skip))
  (.seq (.seq (.ops [⟨(some 11), 13, .mv (.t 1), none, []⟩, ⟨(some 12), 14, .bin .leq (.t 11) (.c (.i .i64 256)), none, []⟩])
  (.cond (.t 12)
  (.seq (.ops [⟨(some 13), 15, .mv (.t 0), none, []⟩, ⟨(some 14), 16, .call 133 [((.t 13), 3)], none, []⟩, ⟨(some 15), 17, .mv (.t 1), none, []⟩, ⟨(some 16), 18, .bin .rem (.t 14) (.t 15), none, []⟩, ⟨(some 4), 6, .mv (.t 16), none, []⟩])
  .ret)
  .skip))
  (.seq (.ops [⟨(some 17), 19, .mv (.t 0), none, []⟩, ⟨(some 18), 20, .call 133 [((.t 17), 3)], none, []⟩, ⟨(some 5), 7, .mv (.t 18), none, []⟩])
  (.seq (.ops [⟨(some 19), 21, .mv (.t 0), none, []⟩, ⟨(some 20), 22, .call 133 [((.t 19), 3)], none, []⟩, ⟨(some 6), 8, .mv (.t 20), none, []⟩])
  (.seq (.ops [⟨(some 21), 23, .mv (.t 0), none, []⟩, ⟨(some 22), 24, .call 133 [((.t 21), 3)], none, []⟩, ⟨(some 7), 9, .mv (.t 22), none, []⟩])
  (.seq (.ops [⟨(some 23), 25, .mv (.t 0), none, []⟩, ⟨(some 24), 26, .call 133 [((.t 23), 3)], none, []⟩, ⟨(some 8), 10, .mv (.t 24), none, []⟩])
  (.seq (.ops [⟨(some 25), 27, .mv (.t 5), none, []⟩, ⟨(some 26), 28, .bin .mul (.t 25) (.c (.i .i64 16777216)), none, []⟩, ⟨(some 27), 29, .mv (.t 6), none, []⟩, ⟨(some 28), 30, .bin .mul (.t 27) (.c (.i .i64 65536)), none, []⟩, ⟨(some 29), 31, .bin .add (.t 26) (.t 28), none, []⟩, ⟨(some 30), 32, .mv (.t 7), none, []⟩, ⟨(some 31), 33, .bin .mul (.t 30) (.c (.i .i64 256)), none, []⟩, ⟨(some 32), 34, .bin .add (.t 29) (.t 31), none, []⟩, ⟨(some 33), 35, .mv (.t 8), none, []⟩, ⟨(some 34), 36, .bin .add (.t 32) (.t 33), none, []⟩, ⟨(some 35), 37, .mv (.t 1), none, []⟩, ⟨(some 36), 38, .bin .rem (.t 34) (.t 35), none, []⟩, ⟨(some 4), 6, .mv (.t 36), none, []⟩])
  .ret))))))))
theorem k85 : compCode Try.prog Try.f85.ntmps Try.f85.body.get! = some c85 := by kernel_rfl
theorem r85 : resTmps Try.prog Try.f85.results.toList = some [.tmp 4] := by kernel_rfl
/- spec.l1Once -/
def c86 : TCode := (.seq (.ops [⟨(some 4), 6, .mv (.c (.b false)), none, []⟩])
  (.seq (.ops [⟨(some 5), 7, .mv (.t 0), none, []⟩, ⟨(some 6), 8, .mv (.t 1), none, []⟩, ⟨(some 7), 9, .call 85 [((.t 5), 3), ((.t 6), 0)], none, []⟩, ⟨(some 8), 10, .bin .eql (.t 7) (.c (.i .i64 0)), none, []⟩, ⟨(some 4), 6, .mv (.t 8), none, []⟩])
  .ret))
theorem k86 : compCode Try.prog Try.f86.ntmps Try.f86.body.get! = some c86 := by kernel_rfl
theorem r86 : resTmps Try.prog Try.f86.results.toList = some [.tmp 4] := by kernel_rfl
/- spec.l1PickInt -/
def c87 : TCode := (.seq (.ops [⟨(some 4), 6, .mv (.c (.i .i64 0)), none, []⟩])
  (.seq (.ops [⟨(some 5), 7, .mv (.t 1), none, []⟩, ⟨(some 6), 8, .mv (.t 0), none, []⟩, ⟨(some 7), 9, .mv (.t 1), none, []⟩, ⟨(some 8), 10, .len false (.t 7), none, []⟩, ⟨(some 9), 11, .call 85 [((.t 6), 3), ((.t 8), 0)], none, []⟩, ⟨(some 10), 12, .iaddr 1 (.t 5) (.t 9), none, []⟩, ⟨(some 11), 13, .load false 1 (.t 10), none, []⟩, ⟨(some 4), 6, .mv (.t 11), none, []⟩])
  .ret))
theorem k87 : compCode Try.prog Try.f87.ntmps Try.f87.body.get! = some c87 := by kernel_rfl
theorem r87 : resTmps Try.prog Try.f87.results.toList = some [.tmp 4] := by kernel_rfl
/- spec.l1Pick -/
def c140 : TCode := (.seq (.ops [⟨(some 4), 6, .mv (.c (.s ⟨#[]⟩)), none, []⟩])
  (.seq (.ops [⟨(some 5), 7, .mv (.t 1), none, []⟩, ⟨(some 6), 8, .mv (.t 0), none, []⟩, ⟨(some 7), 9, .mv (.t 1), none, []⟩, ⟨(some 8), 10, .len false (.t 7), none, []⟩, ⟨(some 9), 11, .call 85 [((.t 6), 3), ((.t 8), 0)], none, []⟩, ⟨(some 10), 12, .iaddr 1 (.t 5) (.t 9), none, []⟩, ⟨(some 11), 13, .load false 1 (.t 10), none, []⟩, ⟨(some 4), 6, .mv (.t 11), none, []⟩])
  .ret))
theorem k140 : compCode Try.prog Try.f140.ntmps Try.f140.body.get! = some c140 := by kernel_rfl
theorem r140 : resTmps Try.prog Try.f140.results.toList = some [.tmp 4] := by kernel_rfl

@[simp] def uT (n : Int) : List TV := [.i .u8 n]
@[simp] theorem fzL_uT (n : Int) : fzL (uT n) = uT n := rfl
@[simp] theorem fzLL_uT (l : List (Int)) : fzLL (l.map uT) = l.map uT := fzLL_map fzL_uT l
@[simp] theorem noROLL_uT (l : List (Int)) : noROLL (l.map uT) = true := noROLL_map (fun _ => rfl) l
@[simp] theorem noref_uT (l : List (Int)) : (l.map uT).all (·.all noref) = true := noref_map (fun _ => rfl) l
@[simp] theorem srcT_uT (H : Hp) (z : Nat) (l : List (Int)) : srcT H (.sl false z (l.map uT)) = some (z, l.map uT, H, []) := by simp only [srcT, noref_uT, if_true]
theorem w32 (bs : List Int) : Contract Try.prog false 32 [.ro] [.sl false 1 (bs.map uT)] [.b (decide (1048576 < bs.length))] [] := by
  refine mk_contract [] Try.func32 (c := Try.f32.body.get!) (by kernel_rfl) k32 r32 (of_decide_eq_true rfl) fun _ => ?_
  unfold c32; simp
  omega
def atF (bs : List Int) (i : Nat) : Int := match bs[i]? with | some x => IntKind.i64.wrap x | none => ((i : Int) * 7 + bs.length).tmod 256
theorem w33 (bs : List Int) (i : Nat) (hb : bs.length ≤ 2^40) (hi : i ≤ 2^40) : Contract Try.prog false 33 [.ro, .ro] [.sl false 1 (bs.map uT), .i .i64 i] [.i .i64 (atF bs i)] [] := by
  refine mk_contract [] Try.func33 (c := Try.f33.body.get!) (by kernel_rfl) k33 r33 (of_decide_eq_true rfl) fun _ => ?_
  have w1 : IntKind.i64.wrap ((i : Int) * 7) = i * 7 := wrap_id (by omega) (by omega)
  have w2 : IntKind.i64.wrap ((i : Int) * 7 + bs.length) = i * 7 + bs.length := wrap_id (by omega) (by omega)
  unfold c33; simp
  refine ⟨fun hlt => ?_, fun hge => ?_⟩
  · obtain ⟨x, hx⟩ := get_some hlt
    simp [hx, atF]
  · have hx : bs[i]? = none := List.getElem?_eq_none (by omega)
    simp [hx, atF, w1, w2]

def bytes (bs : List Int) : Prop := ∀ x ∈ bs, 0 ≤ x ∧ x ≤ 255
def curT (bs : List Int) (i : Nat) (h : Int) : TV := .po true [.sl false 1 (bs.map uT), .i .i64 i, .i .i64 h]
def byteF (n : Nat) : Int := IntKind.i64.wrap ((n &&& 255 % 2 ^ IntKind.i64.bits : Nat) : Int)
theorem byteF_in (n : Nat) : 0 ≤ byteF n ∧ byteF n ≤ 255 := by
  have h : n &&& 255 % 2 ^ IntKind.i64.bits ≤ 255 := Nat.le_trans Nat.and_le_right (by decide)
  unfold byteF
  rw [wrap_id (by omega) (by omega)]
  omega
@[simp] theorem byteF_eq (n : Nat) : IntKind.i64.wrap ((n &&& 255 % 2 ^ IntKind.i64.bits : Nat) : Int) = byteF n := rfl
theorem w133 (bs : List Int) (i : Nat) (h : Int) (hb : bs.length ≤ 2^40) (hi : i ≤ bs.length) : ∃ x : Nat × Int × Int, (x.1 ≤ bs.length ∧ 0 ≤ x.2.2 ∧ x.2.2 ≤ 255) ∧ Contract Try.prog true 133 [.own] [curT bs i h] [.i .i64 x.2.2] [some (curT bs x.1 x.2.1)] := by
  refine mk_contractE [some [(1, 0)]] Try.func133 (c := Try.f133.body.get!) (by kernel_rfl) k133 r133 (of_decide_eq_true rfl) ?_
  unfold c133; unfold curT; simp
  have hw : IntKind.i64.wrap ((i : Int) + 1) = i + 1 := wrap_id (by omega) (by omega)
  refine ⟨fun hlt => ?_, fun hge => ?_⟩
  · obtain ⟨b, hbb⟩ := get_some hlt
    simp [hbb, hw]
    generalize IntKind.i64.wrap (IntKind.i64.wrap (h * 6364136223846793005) + 1442695040888963407) = h2
    generalize byteF (IntKind.i64.wrap ↑((h2.fdiv (2 ^ min 33 IntKind.i64.bits) % 2 ^ IntKind.i64.bits).toNat ^^^ (h2.fdiv (2 ^ min 45 IntKind.i64.bits) % 2 ^ IntKind.i64.bits).toNat) % 2 ^ IntKind.i64.bits).toNat = x1
    obtain ⟨y, hy⟩ : ∃ y, y = byteF (IntKind.i64.wrap (x1 + IntKind.i64.wrap b) % 2 ^ IntKind.i64.bits).toNat := ⟨_, rfl⟩
    have hy2 := byteF_in (IntKind.i64.wrap (x1 + IntKind.i64.wrap b) % 2 ^ IntKind.i64.bits).toNat
    rw [← hy] at hy2 ⊢
    refine exK_of (i + 1, h2, y) ⟨hlt, hy2.1, hy2.2⟩ ?_
    simp
  · generalize IntKind.i64.wrap (IntKind.i64.wrap (h * 6364136223846793005) + 1442695040888963407) = h2
    have hy2 := byteF_in (IntKind.i64.wrap ↑((h2.fdiv (2 ^ min 33 IntKind.i64.bits) % 2 ^ IntKind.i64.bits).toNat ^^^ (h2.fdiv (2 ^ min 45 IntKind.i64.bits) % 2 ^ IntKind.i64.bits).toNat) % 2 ^ IntKind.i64.bits).toNat
    generalize byteF (IntKind.i64.wrap ↑((h2.fdiv (2 ^ min 33 IntKind.i64.bits) % 2 ^ IntKind.i64.bits).toNat ^^^ (h2.fdiv (2 ^ min 45 IntKind.i64.bits) % 2 ^ IntKind.i64.bits).toNat) % 2 ^ IntKind.i64.bits).toNat = y at *
    refine exK_of (i, h2, y) ⟨hi, hy2.1, hy2.2⟩ ?_
    simp
theorem tmod_in {a n : Int} (ha : 0 ≤ a) (hn : 0 < n) : 0 ≤ a.tmod n ∧ a.tmod n < n := ⟨Int.tmod_nonneg _ ha, Int.tmod_lt_of_pos _ hn⟩
set_option maxRecDepth 100000 in
theorem w85 (bs : List Int) (i : Nat) (h n : Int) (hb : bs.length ≤ 2^40) (hi : i ≤ bs.length) : ∃ x : Nat × Int × Int, (x.1 ≤ bs.length ∧ 0 ≤ x.2.2 ∧ (0 < n → x.2.2 < n)) ∧ Contract Try.prog true 85 [.own, .ro] [curT bs i h, .i .i64 n] [.i .i64 x.2.2] [some (curT bs x.1 x.2.1)] := by
  refine mk_contractE [some [(1, 0)]] Try.func85 (c := Try.f85.body.get!) (by kernel_rfl) k85 r85 (of_decide_eq_true rfl) ?_
  unfold c85; unfold curT; simp
  refine ⟨fun hn0 => ?_, fun hn0 => ?_⟩
  · refine exK_of (i, h, 0) ⟨hi, Int.le_refl 0, fun h2 => by omega⟩ ?_
    simp
  refine ⟨fun hn1 => ?_, fun hn1 => ?_⟩
  · obtain ⟨⟨i1, h1, y⟩, ⟨a1, a2, a3⟩, hC⟩ := w133 bs i h hb hi
    simp only at a1 a2 a3 hC
    unfold curT at hC
    refine callW_ms [.own] ?_
    simp
    refine callX_of hC (by simp) ?_
    have hm := tmod_in a2 (show 0 < n by omega)
    simp
    refine ⟨by omega, exK_of (i1, h1, y.tmod n) ⟨a1, hm.1, fun _ => hm.2⟩ ?_⟩
    simp
  · obtain ⟨⟨i1, h1, y1⟩, ⟨a1, b1, c1⟩, hC1⟩ := w133 bs i h hb hi
    simp only at a1 b1 c1 hC1
    unfold curT at hC1
    refine callW_ms [.own] ?_
    simp
    refine callX_of hC1 (by simp) ?_
    simp
    obtain ⟨⟨i2, h2, y2⟩, ⟨a2, b2, c2⟩, hC2⟩ := w133 bs i1 h1 hb a1
    simp only at a2 b2 c2 hC2
    unfold curT at hC2
    refine callW_ms [.own] ?_
    simp
    refine callX_of hC2 (by simp) ?_
    simp
    obtain ⟨⟨i3, h3, y3⟩, ⟨a3, b3, c3⟩, hC3⟩ := w133 bs i2 h2 hb a2
    simp only at a3 b3 c3 hC3
    unfold curT at hC3
    refine callW_ms [.own] ?_
    simp
    refine callX_of hC3 (by simp) ?_
    simp
    obtain ⟨⟨i4, h4, y4⟩, ⟨a4, b4, c4⟩, hC4⟩ := w133 bs i3 h3 hb a3
    simp only at a4 b4 c4 hC4
    unfold curT at hC4
    refine callW_ms [.own] ?_
    simp
    refine callX_of hC4 (by simp) ?_
    have w1 : IntKind.i64.wrap (y1 * 16777216) = y1 * 16777216 := wrap_id (by omega) (by omega)
    have w2 : IntKind.i64.wrap (y2 * 65536) = y2 * 65536 := wrap_id (by omega) (by omega)
    have w3 : IntKind.i64.wrap (y3 * 256) = y3 * 256 := wrap_id (by omega) (by omega)
    have w4 : IntKind.i64.wrap (y1 * 16777216 + y2 * 65536) = y1 * 16777216 + y2 * 65536 := wrap_id (by omega) (by omega)
    have w5 : IntKind.i64.wrap (y1 * 16777216 + y2 * 65536 + y3 * 256) = y1 * 16777216 + y2 * 65536 + y3 * 256 := wrap_id (by omega) (by omega)
    have w6 : IntKind.i64.wrap (y1 * 16777216 + y2 * 65536 + y3 * 256 + y4) = y1 * 16777216 + y2 * 65536 + y3 * 256 + y4 := wrap_id (by omega) (by omega)
    have hm := tmod_in (a := y1 * 16777216 + y2 * 65536 + y3 * 256 + y4) (by omega) (show 0 < n by omega)
    simp [w1, w2, w3, w4, w5, w6]
    refine ⟨by omega, exK_of (i4, h4, (y1 * 16777216 + y2 * 65536 + y3 * 256 + y4).tmod n) ⟨a4, hm.1, fun _ => hm.2⟩ ?_⟩
    simp
theorem w86 (bs : List Int) (i : Nat) (h n : Int) (hb : bs.length ≤ 2^40) (hi : i ≤ bs.length) : ∃ x : Nat × Int × Bool, (x.1 ≤ bs.length) ∧ Contract Try.prog true 86 [.own, .ro] [curT bs i h, .i .i64 n] [.b x.2.2] [some (curT bs x.1 x.2.1)] := by
  refine mk_contractE [some [(1, 0)]] Try.func86 (c := Try.f86.body.get!) (by kernel_rfl) k86 r86 (of_decide_eq_true rfl) ?_
  unfold c86; unfold curT; simp
  obtain ⟨⟨i1, h1, y⟩, ⟨a1, a2, a3⟩, hC⟩ := w85 bs i h n hb hi
  simp only at a1 a2 a3 hC
  unfold curT at hC
  refine callW_ms [.own, .ro] ?_
  simp
  refine callX_of hC (by simp) ?_
  simp
  refine exK_of (i1, h1, decide (y = 0)) a1 ?_
  simp
theorem w87 (bs L : List Int) (i : Nat) (h : Int) (hb : bs.length ≤ 2^40) (hi : i ≤ bs.length) (hL : 0 < L.length) (hL2 : L.length ≤ 256) : ∃ x : Nat × Int × Int, (x.1 ≤ bs.length ∧ x.2.2 ∈ L) ∧ Contract Try.prog true 87 [.own, .own] [curT bs i h, .sl true 1 (L.map iT)] [.i .i64 x.2.2] [some (curT bs x.1 x.2.1), none] := by
  refine mk_contractE [some [(1, 0)], none] Try.func87 (c := Try.f87.body.get!) (by kernel_rfl) k87 r87 (of_decide_eq_true rfl) ?_
  unfold c87; unfold curT; simp
  obtain ⟨⟨i1, h1, y⟩, ⟨a1, a2, a3⟩, hC⟩ := w85 bs i h L.length hb hi
  simp only at a1 a2 a3 hC
  unfold curT at hC
  have hy := a3 (by omega)
  obtain ⟨z, hz⟩ : ∃ z, L[y.toNat]? = some z := get_some (by omega)
  refine callW_ms [.own, .ro] ?_
  simp
  refine callX_of hC (by simp) ?_
  simp [hz, a2]
  refine ⟨hy, exK_of (i1, h1, z) ⟨a1, List.mem_of_getElem? hz⟩ ?_⟩
  simp
theorem w83 (bs : List Int) (hb : bs.length ≤ 2^40) : ∃ h : Int, (True) ∧ Contract Try.prog true 83 [.ro] [.sl false 1 (bs.map uT)] [curT bs 0 h] [] := by
  refine mk_contractE [] Try.func83 (c := Try.f83.body.get!) (by kernel_rfl) k83 r83 (of_decide_eq_true rfl) ?_
  unfold c83; unfold curT; simp
  obtain ⟨N, hN⟩ : ∃ N, N = min bs.length 4000 := ⟨_, rfl⟩
  refine twp_for N (fun j s => ∃ h : Int, s.t 0 = .sl false 1 (bs.map uT) ∧ s.t 3 = .i .i64 h ∧ s.t 4 = .i .i64 j ∧ s.H = lk [(1, [])]) [] (by simp) ?_ ?_
  · simp
  · rintro j s hj ⟨h, q0, q3, q4, qH⟩
    rw [nf_of qH]
    simp [q0, q3, q4]
    have hw : IntKind.i64.wrap ((j : Int) + 1) = j + 1 := wrap_id (by omega) (by omega)
    cases hb1 : decide (j < bs.length)
    · have hge := of_decide_eq_false hb1
      simp [q0, q3, q4, hb1]
      refine exK_of h trivial ?_
      simp
    · have hlt := of_decide_eq_true hb1
      obtain ⟨b, hbb⟩ := get_some hlt
      simp [q0, q3, q4, hb1, hbb, hw]
      refine ⟨fun h4 => by omega, fun h4 => exK_of h trivial ?_⟩
      simp
end Go.Proofs.YtloodkhdngipbaaT
