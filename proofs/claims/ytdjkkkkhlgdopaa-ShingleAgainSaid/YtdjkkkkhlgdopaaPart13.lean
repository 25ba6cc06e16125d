/- Own work: texts of the proof of a law (ShEnv, Sh1, Sh2, ShM, Sh3, Sh4, Sh5, Sh6, Sh7, Sh8, Sh9, Sh10). No condition. -/
import Derived.Test.YtdjkkkkhlgdopaaPart12
import Derived.Test.YtdjkkkkhlgdopaaProg
import Derived.KernelRfl
namespace Go.Proofs
open Go Go.Sx
/-- the types of the program -/
def Try.E : Go.Sx.Env := [
  {},
  ⟨true, 1, 8, .other, (some [.lit .nilFunc]), false⟩,
  ⟨true, 1, 8, (.int .i64), (some [.int .i64 0]), false⟩,
  ⟨true, 1, 8, (.int .i64), (some [.int .i64 0]), false⟩,
  ⟨true, 1, 1, .bool, (some [.prop False inferInstance]), false⟩,
  ⟨true, 1, 1, (.int .u8), (some [.int .u8 0]), false⟩,
  {},
  {},
  {},
  ⟨true, 1, 16, .str, (some [.lit (.string ByteArray.empty)]), false⟩,
  {},
  {},
  ⟨true, 1, 8, (.int .u64), (some [.int .u64 0]), false⟩,
  {},
  {},
  {},
  {},
  {},
  {},
  {},
  {},
  ⟨true, 1, 4, (.int .i32), (some [.int .i32 0]), false⟩,
  ⟨true, 5, 40, (.struct [(0, 1, 3), (1, 1, 3), (2, 1, 3), (3, 1, 3), (4, 1, 3)]), (some [.int .i64 0, .int .i64 0, .int .i64 0, .int .i64 0, .int .i64 0]), true⟩,
  ⟨true, 5, 40, (.struct [(0, 1, 3), (1, 1, 3), (2, 1, 3), (3, 1, 3), (4, 1, 3)]), (some [.int .i64 0, .int .i64 0, .int .i64 0, .int .i64 0, .int .i64 0]), true⟩,
  ⟨true, 1, 24, (.slice 42), (some [.lit (.slice none 0 0)]), false⟩,
  ⟨true, 6, 48, (.struct [(0, 5, 23), (5, 1, 3)]), (some [.int .i64 0, .int .i64 0, .int .i64 0, .int .i64 0, .int .i64 0, .int .i64 0]), true⟩,
  ⟨true, 6, 48, (.struct [(0, 5, 23), (5, 1, 3)]), (some [.int .i64 0, .int .i64 0, .int .i64 0, .int .i64 0, .int .i64 0, .int .i64 0]), true⟩,
  ⟨true, 1, 8, .other, (some [.lit .nilFunc]), false⟩,
  ⟨true, 1, 8, .other, (some [.lit .nilFunc]), false⟩,
  ⟨true, 1, 8, .other, (some [.lit .nilFunc]), false⟩,
  ⟨true, 1, 8, (.int .i64), (some [.int .i64 0]), false⟩,
  {},
  ⟨true, 1, 8, .other, (some [.lit .nilFunc]), false⟩,
  ⟨true, 1, 8, .other, (some [.lit .nilFunc]), false⟩,
  ⟨true, 1, 8, .other, (some [.lit .nilFunc]), false⟩,
  ⟨true, 1, 24, (.slice 3), (some [.lit (.slice none 0 0)]), false⟩,
  ⟨true, 6, 96, (.struct [(0, 1, 35), (1, 1, 24), (2, 1, 35), (3, 1, 3), (4, 1, 3), (5, 1, 3)]), (some [.lit (.slice none 0 0), .lit (.slice none 0 0), .lit (.slice none 0 0), .int .i64 0, .int .i64 0, .int .i64 0]), true⟩,
  ⟨true, 6, 96, (.struct [(0, 1, 35), (1, 1, 24), (2, 1, 35), (3, 1, 3), (4, 1, 3), (5, 1, 3)]), (some [.lit (.slice none 0 0), .lit (.slice none 0 0), .lit (.slice none 0 0), .int .i64 0, .int .i64 0, .int .i64 0]), true⟩,
  {},
  ⟨true, 1, 8, .other, (some [.lit .nilFunc]), false⟩,
  ⟨true, 1, 8, .other, (some [.lit .nilFunc]), false⟩,
  ⟨true, 2, 16, (.struct [(0, 1, 3), (1, 1, 3)]), (some [.int .i64 0, .int .i64 0]), true⟩,
  ⟨true, 2, 16, (.struct [(0, 1, 3), (1, 1, 3)]), (some [.int .i64 0, .int .i64 0]), true⟩,
  ⟨true, 1, 8, .other, (some [.lit .nilFunc]), false⟩,
  ⟨true, 2, 16, (.struct [(0, 1, 3), (1, 1, 3)]), (some [.int .i64 0, .int .i64 0]), true⟩,
  ⟨true, 2, 16, (.struct [(0, 1, 3), (1, 1, 3)]), (some [.int .i64 0, .int .i64 0]), true⟩,
  {},
  ⟨true, 1, 8, .other, (some [.lit .nilFunc]), false⟩,
  ⟨true, 1, 8, (.int .u64), (some [.int .u64 0]), false⟩,
  {},
  ⟨true, 1, 8, .other, (some [.lit .nilFunc]), false⟩,
  ⟨true, 1, 8, .other, (some [.lit .nilFunc]), false⟩,
  ⟨true, 1, 8, .other, (some [.lit .nilFunc]), false⟩,
  ⟨true, 1, 8, .other, (some [.lit .nilFunc]), false⟩,
  ⟨true, 2, 16, (.struct [(0, 1, 3), (1, 1, 3)]), (some [.int .i64 0, .int .i64 0]), true⟩,
  ⟨true, 2, 16, (.struct [(0, 1, 3), (1, 1, 3)]), (some [.int .i64 0, .int .i64 0]), true⟩,
  ⟨true, 1, 8, .other, (some [.lit .nilFunc]), false⟩,
  ⟨true, 1, 8, .other, (some [.lit .nilFunc]), false⟩,
  {},
  ⟨true, 1, 8, .other, (some [.lit .nilFunc]), false⟩,
  ⟨true, 1, 8, .other, (some [.lit .nilFunc]), false⟩,
  ⟨true, 1, 8, .other, (some [.lit .nilFunc]), false⟩,
  ⟨true, 1, 8, .other, (some [.lit .nilFunc]), false⟩,
  {},
  ⟨true, 1, 8, .other, (some [.lit .nilFunc]), false⟩,
  ⟨true, 1, 8, .other, (some [.lit (.pointer none)]), false⟩,
  ⟨true, 1, 8, .other, (some [.lit .nilFunc]), false⟩,
  {},
  ⟨true, 1, 8, (.map 3 3), (some [.lit (.map none)]), false⟩,
  ⟨true, 12, 144, (.struct [(0, 5, 23), (5, 6, 37), (11, 1, 68)]), (some [.int .i64 0, .int .i64 0, .int .i64 0, .int .i64 0, .int .i64 0, .lit (.slice none 0 0), .lit (.slice none 0 0), .lit (.slice none 0 0), .int .i64 0, .int .i64 0, .int .i64 0, .lit (.map none)]), true⟩,
  ⟨true, 12, 144, (.struct [(0, 5, 23), (5, 6, 37), (11, 1, 68)]), (some [.int .i64 0, .int .i64 0, .int .i64 0, .int .i64 0, .int .i64 0, .lit (.slice none 0 0), .lit (.slice none 0 0), .lit (.slice none 0 0), .int .i64 0, .int .i64 0, .int .i64 0, .lit (.map none)]), true⟩,
  ⟨true, 1, 8, .other, (some [.lit .nilFunc]), false⟩,
  ⟨true, 1, 24, (.slice 75), (some [.lit (.slice none 0 0)]), false⟩,
  ⟨true, 1, 8, .other, (some [.lit .nilFunc]), false⟩,
  ⟨true, 3, 24, (.struct [(0, 1, 3), (1, 1, 3), (2, 1, 3)]), (some [.int .i64 0, .int .i64 0, .int .i64 0]), true⟩,
  ⟨true, 3, 24, (.struct [(0, 1, 3), (1, 1, 3), (2, 1, 3)]), (some [.int .i64 0, .int .i64 0, .int .i64 0]), true⟩,
  ⟨true, 1, 8, .other, (some [.lit .nilFunc]), false⟩,
  {},
  ⟨true, 1, 8, .other, (some [.lit .nilFunc]), false⟩,
  ⟨true, 1, 8, .other, (some [.lit .nilFunc]), false⟩,
  ⟨true, 1, 8, .other, (some [.lit .nilFunc]), false⟩,
  ⟨true, 1, 8, .other, (some [.lit .nilFunc]), false⟩,
  ⟨true, 2, 16, (.array 2 3), (some [.int .i64 0, .int .i64 0]), true⟩,
  ⟨true, 1, 24, (.slice 82), (some [.lit (.slice none 0 0)]), false⟩,
  ⟨true, 1, 8, .other, (some [.lit .nilFunc]), false⟩,
  ⟨true, 1, 8, .other, (some [.lit .nilFunc]), false⟩,
  ⟨true, 1, 8, .other, (some [.lit .nilFunc]), false⟩,
  ⟨true, 1, 8, .other, (some [.lit .nilFunc]), false⟩,
  ⟨true, 1, 8, .other, (some [.lit .nilFunc]), false⟩,
  ⟨true, 1, 8, .other, (some [.lit .nilFunc]), false⟩,
  ⟨true, 1, 8, .other, (some [.lit .nilFunc]), false⟩,
  ⟨true, 2, 16, (.struct [(0, 1, 3), (1, 1, 3)]), (some [.int .i64 0, .int .i64 0]), true⟩,
  ⟨true, 2, 16, (.struct [(0, 1, 3), (1, 1, 3)]), (some [.int .i64 0, .int .i64 0]), true⟩,
  ⟨true, 1, 8, .other, (some [.lit .nilFunc]), false⟩,
  ⟨true, 1, 8, .other, (some [.lit (.pointer none)]), false⟩,
  ⟨true, 1, 8, .other, (some [.lit .nilFunc]), false⟩,
  ⟨true, 1, 8, .other, (some [.lit .nilFunc]), false⟩,
  ⟨true, 1, 8, .other, (some [.lit .nilFunc]), false⟩,
  ⟨true, 1, 8, .other, (some [.lit .nilFunc]), false⟩,
  ⟨true, 1, 8, .other, (some [.lit .nilFunc]), false⟩,
  ⟨true, 1, 8, .other, (some [.lit .nilFunc]), false⟩,
  ⟨true, 1, 8, .other, (some [.lit .nilFunc]), false⟩,
  ⟨true, 1, 8, .other, (some [.lit .nilFunc]), false⟩,
  ⟨true, 1, 8, .other, (some [.lit .nilFunc]), false⟩,
  ⟨true, 1, 8, .other, (some [.lit .nilFunc]), false⟩,
  ⟨true, 1, 8, .other, (some [.lit .nilFunc]), false⟩,
  ⟨true, 1, 8, .other, (some [.lit .nilFunc]), false⟩,
  ⟨true, 1, 8, .other, (some [.lit .nilFunc]), false⟩,
  ⟨true, 1, 8, .other, (some [.lit .nilFunc]), false⟩,
  ⟨true, 1, 8, .other, (some [.lit .nilFunc]), false⟩,
  ⟨true, 1, 8, .other, (some [.lit .nilFunc]), false⟩,
  ⟨true, 1, 8, .other, (some [.lit .nilFunc]), false⟩,
  ⟨true, 1, 8, .other, (some [.lit .nilFunc]), false⟩,
  ⟨true, 1, 8, .other, (some [.lit .nilFunc]), false⟩,
  ⟨true, 1, 8, (.int .i64), (some [.int .i64 0]), false⟩,
  {},
  ⟨true, 1, 8, .other, (some [.lit .nilFunc]), false⟩,
  ⟨true, 1, 8, .other, (some [.lit .nilFunc]), false⟩,
  ⟨true, 1, 8, .other, (some [.lit .nilFunc]), false⟩,
  ⟨true, 1, 8, .other, (some [.lit .nilFunc]), false⟩,
  ⟨true, 1, 8, .other, (some [.lit .nilFunc]), false⟩,
  ⟨true, 1, 4, (.int .u32), (some [.int .u32 0]), false⟩,
  ⟨true, 1, 8, .other, (some [.lit .nilFunc]), false⟩,
  ⟨true, 1, 8, (.int .u64), (some [.int .u64 0]), false⟩,
  ⟨true, 1, 8, (.int .u64), (some [.int .u64 0]), false⟩,
  ⟨true, 1, 8, .other, (some [.lit .nilFunc]), false⟩,
  ⟨true, 1, 8, .other, (some [.lit .nilFunc]), false⟩,
  ⟨true, 1, 8, .other, (some [.lit .nilFunc]), false⟩,
  ⟨true, 1, 8, .other, (some [.lit (.pointer none)]), false⟩,
  ⟨true, 1, 8, .other, (some [.lit .nilFunc]), false⟩,
  ⟨true, 1, 8, .other, (some [.lit (.pointer none)]), false⟩,
  ⟨true, 1, 8, .other, (some [.lit .nilFunc]), false⟩,
  ⟨true, 1, 8, .other, (some [.lit .nilFunc]), false⟩,
  {},
  {},
  {},
  {},
  {},
  ⟨true, 1, 8, .other, (some [.lit .nilFunc]), false⟩,
  {},
  {},
  {},
  ⟨true, 1, 8, .other, (some [.lit (.pointer none)]), false⟩,
  {},
  {},
  {},
  {},
  {}]

def Try.mask (t : Nat) : Bool := List.elem t [1, 2, 3, 4, 5, 9, 12, 21, 22, 23, 24, 25, 26, 27, 28, 29, 30, 32, 33, 34, 35, 36, 37, 39, 40, 41, 42, 43, 44, 45, 47, 48, 50, 51, 52, 53, 54, 55, 56, 57, 59, 60, 61, 62, 64, 65, 66, 68, 69, 70, 71, 72, 73, 74, 75, 76, 78, 79, 80, 81, 82, 83, 84, 85, 86, 87, 88, 89, 90, 91, 92, 93, 94, 95, 96, 97, 98, 99, 100, 101, 102, 103, 104, 105, 106, 107, 108, 109, 110, 111, 112, 113, 114, 116, 117, 118, 119, 120, 121, 122, 123, 124, 125, 126, 127, 128, 129, 130, 131, 132, 138, 142]

theorem Try.E_eq : Try.E = (List.range 148).map (fun t => bif Try.mask t then Go.Sx.tiOf Try.prog t else {}) := by kernel_rfl

theorem Try.E_ok : Go.Sx.ProgOk Try.E Try.prog := ⟨Go.Sx.envOk_of Try.E_eq, by kernel_rfl⟩
end Go.Proofs


namespace Go.Proofs
open Go Go.Sx
set_option maxRecDepth 100000
set_option maxHeartbeats 4000000
-- SxAid2

/-- bands -/
structure Bands where
  B : Int
  T : Int
  K : Int
  C : Int
  L : Int

structure Bands.Ok (b : Bands) : Prop where
  B : 1 ≤ b.B ∧ b.B ≤ 6
  T : 1 ≤ b.T ∧ b.T ≤ 6
  K : 1 ≤ b.K ∧ b.K ≤ 4
  C : 1 ≤ b.C ∧ b.C ≤ 12
  L : 1 ≤ b.L ∧ b.L ≤ 20

def Bands.c (b : Bands) : List V := [.int .i64 b.B, .int .i64 b.T, .int .i64 b.K, .int .i64 b.C, .int .i64 b.L]
def Bands.v (b : Bands) : V := .agg [.int .i64 b.B, .int .i64 b.T, .int .i64 b.K, .int .i64 b.C, .int .i64 b.L]

theorem begin49 (b : Bands) (hb : b.Ok) : NewC Try.prog 49 [b.v] (fun r H => ∃ g, r = .ptr 0 0 ∧ H = [.cells 70 [.int .i64 b.B, .int .i64 b.T, .int .i64 b.K, .int .i64 b.C, .int .i64 b.L, .osl 1 (b.B * b.T * b.K).toNat, .lit (.slice none 0 0), .osl 2 b.B.toNat, .int .i64 0, .int .i64 0, .int .i64 0, .map 3], .row 3 1 (b.B * b.T * b.K).toNat (fun _ => [.int .i64 0]) false, .row 3 1 b.B.toNat (fun _ => [.int .i64 0]) false, .map [.i64] false false (fun _ => False) (fun _ => [.int .i64 0]) 0 g]) := by
  have hB := hb.B
  have hT := hb.T
  have hK := hb.K
  have h1 : 0 ≤ b.B * b.T ∧ b.B * b.T ≤ 36 := ⟨Int.mul_nonneg (by omega) (by omega), Int.le_trans (Int.mul_le_mul hB.2 hT.2 (by omega) (by omega)) (by omega)⟩
  have h2 : 0 ≤ b.B * b.T * b.K ∧ b.B * b.T * b.K ≤ 144 := ⟨Int.mul_nonneg (by omega) (by omega), Int.le_trans (Int.mul_le_mul h1.2 hK.2 (by omega) (by omega)) (by omega)⟩
  refine newC_ent Try.E_ok Try.func49 rfl (by kernel_rfl) ?_
  (repeat' ((conv => whnf); (first | ((first | with_reducible refine spl (fun hc => ?_) (fun hc => ?_) | with_reducible refine spl' (fun hc => ?_) (fun hc => ?_)) <;> try (exfalso; omega)) | with_reducible refine imp_intro (fun hc => ?_) | refine vcq (k := ?_) | refine dr 2017 (k := ?_)))); all_goals (try conv => whnf); all_goals (try with_reducible exact trivial)
  intro g
  (repeat' ((conv => whnf); (first | ((first | with_reducible refine spl (fun hc => ?_) (fun hc => ?_) | with_reducible refine spl' (fun hc => ?_) (fun hc => ?_)) <;> try (exfalso; omega)) | with_reducible refine imp_intro (fun hc => ?_) | refine vcq (k := ?_) | refine dr 2017 (k := ?_)))); all_goals (try conv => whnf); all_goals (try with_reducible exact trivial)
  refine ⟨_, _, ⟨g, rfl, rfl⟩, some [some 2, some 3, some 4, some 1], ?_⟩
  (repeat' ((conv => whnf); (first | ((first | with_reducible refine spl (fun hc => ?_) (fun hc => ?_) | with_reducible refine spl' (fun hc => ?_) (fun hc => ?_)) <;> try (exfalso; omega)) | with_reducible refine imp_intro (fun hc => ?_) | refine vcq (k := ?_) | refine dr 2017 (k := ?_)))); all_goals (try conv => whnf); all_goals (try with_reducible exact trivial)
end Go.Proofs


namespace Go.Proofs
open Go Go.Sx
set_option maxRecDepth 100000
set_option maxHeartbeats 4000000
-- SxAid2

/-- the drive, of which only the bands are looked at -/
def Bands.look (b : Bands) : V := .iptr [.int .i64 b.B, .int .i64 b.T, .int .i64 b.K, .int .i64 b.C, .int .i64 b.L, .any, .any, .any, .any, .any, .any, .any]

theorem tdiv_in {a b : Int} (ha : 0 ≤ a) (hb : 1 ≤ b) : a.tdiv b = a / b ∧ 0 ≤ a / b ∧ a / b ≤ a := by
  refine ⟨Int.tdiv_eq_ediv_of_nonneg ha, Int.ediv_nonneg ha (by omega), Int.ediv_le_self b ha⟩

theorem spot52 (b : Bands) (hb : b.Ok) (n : Int) (h0 : 0 ≤ n) (h1 : n ≤ 1000000) : PureC Try.prog 52 false [b.look, .int .i64 n] (· = .agg [.int .i64 (n / b.K / b.T), .int .i64 (n / b.K % b.T)]) := by
  have hB := hb.B
  have hT := hb.T
  have hK := hb.K
  obtain ⟨e1, e2, e3⟩ := tdiv_in h0 hK.1
  obtain ⟨f1, f2, f3⟩ := tdiv_in e2 hT.1
  have e4 : (n / b.K).tmod b.T = n / b.K % b.T := Int.tmod_eq_emod_of_nonneg e2
  rw [← e1] at f1 f2 f3 e4 ⊢
  rw [← f1, ← e4]
  rw [← f1] at f2 f3
  refine pureC_of_exec Try.E_ok Try.func52 rfl (by kernel_rfl) ?_
  (repeat' ((conv => whnf); (first | ((first | with_reducible refine spl (fun hc => ?_) (fun hc => ?_) | with_reducible refine spl' (fun hc => ?_) (fun hc => ?_)) <;> try (exfalso; omega)) | with_reducible refine imp_intro (fun hc => ?_) | refine vcq (k := ?_) | refine dr 15 (k := ?_)))); all_goals (try conv => whnf); all_goals (try with_reducible exact trivial); (all_goals (try (refine ⟨_, rfl, ?_⟩; (repeat' ((conv => whnf); (first | ((first | with_reducible refine spl (fun hc => ?_) (fun hc => ?_) | with_reducible refine spl' (fun hc => ?_) (fun hc => ?_)) <;> try (exfalso; omega)) | with_reducible refine imp_intro (fun hc => ?_) | refine vcq (k := ?_) | refine dr 15 (k := ?_)))); all_goals (try conv => whnf); all_goals (try with_reducible exact trivial))))
end Go.Proofs


namespace Go.Proofs
open Go Go.Sx

/-- what is kept -/
structure St where
  med : Nat → Int
  cch : List (Int × Int)
  cnt : Nat → Int
  cost : Int
  cleaned : Int
  refreshed : Int

def upd (f : Nat → Int) (i : Nat) (v : Int) (j : Nat) : Int := if j = i then v else f j

def look (l : List (Int × Int)) (n : Int) : Int := ((l.find? (fun x => x.1 == n)).map Prod.snd).getD 0

namespace Bands
variable (b : Bands)
def N : Int := b.B * b.T * b.K
def bd (n : Int) : Int := n / b.K / b.T
def tr (n : Int) : Int := n / b.K % b.T
def lowest (band : Int) : List Int → Int
  | [] => b.T
  | n :: l => if b.bd n = band then min (lowest band l) (b.tr n) else lowest band l
def slots (band : Int) : List Int → Int
  | [] => 0
  | n :: l => if b.bd n = band then slots band l + 1 else slots band l
def costOf (ks : List Int) (band : Int) : Int := b.T - b.lowest band ks

/-- one more band is looked at -/
def pickBand (ks : List Int) (best : Int) (i : Nat) : Int :=
  if b.slots i ks = 0 then best else if best < 0 then i else if b.costOf ks i * b.slots best ks < b.costOf ks best * b.slots i ks then i else best
def choose (ks : List Int) : Int := (List.range b.B.toNat).foldl (b.pickBand ks) (-1)
end Bands

/-- bands are squeezed -/
def St.sqz (b : Bands) : Nat → Nat → St → St
  | 0, _, s => s
  | k + 1, i, s => if s.cnt i + 1 < b.L then { s with cnt := upd s.cnt i (s.cnt i + 1) }
    else St.sqz b k (i + 1) { s with cnt := upd s.cnt i 0, cost := s.cost + b.T, refreshed := s.refreshed + 1 }

def St.keys (s : St) : List Int := s.cch.map Prod.fst

def St.clean0 (b : Bands) (s : St) (band : Int) : St where
  med := fun i => if (i : Int) ∈ s.keys ∧ b.bd i = band then look s.cch i else s.med i
  cch := s.cch.filter (fun x => !(b.bd x.1 == band))
  cnt := if b.costOf s.keys band = b.T then upd s.cnt band.toNat 0 else s.cnt
  cost := s.cost + b.costOf s.keys band
  cleaned := s.cleaned + 1
  refreshed := s.refreshed

def St.clean (b : Bands) (s : St) (band : Int) : St := (s.clean0 b band).sqz b (b.B.toNat - (band.toNat + 1)) (band.toNat + 1)

def ins (w : Int × Int) : List (Int × Int) → List (Int × Int)
  | [] => [w]
  | x :: l => if x.1 < w.1 then x :: ins w l else if x.1 = w.1 then w :: l else w :: x :: l

def St.write (b : Bands) (s : St) (w : Int × Int) : St :=
  if w.1 ∈ s.keys then { s with cch := ins w s.cch }
  else if (s.cch.length : Int) = b.C then { s.clean b (b.choose s.keys) with cch := ins w (s.clean b (b.choose s.keys)).cch }
  else { s with cch := ins w s.cch }

def St.begin : St := ⟨fun _ => 0, [], fun _ => 0, 0, 0, 0⟩

def St.run (b : Bands) (l : List (Int × Int)) : St := l.foldl (St.write b) St.begin

def Asc (l : List (Int × Int)) : Prop := l.Pairwise (fun x y => x.1 < y.1)

structure St.Ok (b : Bands) (s : St) : Prop where
  asc : Asc s.cch
  blk : ∀ x ∈ s.cch, 0 ≤ x.1 ∧ x.1 < b.N
  len : (s.cch.length : Int) ≤ b.C
  cnt : ∀ i, 0 ≤ s.cnt i ∧ s.cnt i < b.L

/-- the numbers are small -/
structure St.Small (s : St) (m : Int) : Prop where
  cost : 0 ≤ s.cost ∧ s.cost ≤ 100 * m
  cleaned : 0 ≤ s.cleaned ∧ s.cleaned ≤ 100 * m
  refreshed : 0 ≤ s.refreshed ∧ s.refreshed ≤ 100 * m

theorem upd_cnt {b : Bands} {f : Nat → Int} (h : ∀ i, 0 ≤ f i ∧ f i < b.L) {k : Nat} {v : Int} (hv : 0 ≤ v ∧ v < b.L) : ∀ i, 0 ≤ upd f k v i ∧ upd f k v i < b.L := by
  intro i
  unfold upd
  split
  · exact hv
  · exact h i

theorem sqz_ok {b : Bands} (hb : b.Ok) : ∀ (k i : Nat) (s : St), s.Ok b → (s.sqz b k i).Ok b
  | 0, _, _, h => h
  | k + 1, i, s, h => by
    have hL := hb.L
    unfold St.sqz
    split
    · rename_i hc
      exact ⟨h.asc, h.blk, h.len, upd_cnt h.cnt ⟨by have := (h.cnt i).1; omega, hc⟩⟩
    · exact sqz_ok hb k (i + 1) _ ⟨h.asc, h.blk, h.len, upd_cnt h.cnt ⟨by omega, by omega⟩⟩

theorem sqz_cost {b : Bands} (hb : b.Ok) : ∀ (k i : Nat) (s : St), s.cost ≤ (s.sqz b k i).cost ∧ (s.sqz b k i).cost ≤ s.cost + b.T * k ∧ s.refreshed ≤ (s.sqz b k i).refreshed ∧ (s.sqz b k i).refreshed ≤ s.refreshed + k
  | 0, _, s => by simp [St.sqz]
  | k + 1, i, s => by
    have hT := hb.T
    unfold St.sqz
    have e : b.T * ((k + 1 : Nat) : Int) = b.T * k + b.T := by rw [Int.natCast_succ, Int.mul_add, Int.mul_one]
    have h0 : 0 ≤ b.T * (k : Int) := Int.mul_nonneg (by omega) (by omega)
    split
    · dsimp only
      omega
    · have := sqz_cost hb k (i + 1) { s with cnt := upd s.cnt i 0, cost := s.cost + b.T, refreshed := s.refreshed + 1 }
      dsimp only at this ⊢
      omega

theorem sqz_same {b : Bands} : ∀ (k i : Nat) (s : St), (s.sqz b k i).med = s.med ∧ (s.sqz b k i).cch = s.cch ∧ (s.sqz b k i).cleaned = s.cleaned
  | 0, _, _ => ⟨rfl, rfl, rfl⟩
  | k + 1, i, s => by
    unfold St.sqz
    split
    · exact ⟨rfl, rfl, rfl⟩
    · exact sqz_same k (i + 1) _

theorem lowest_le {b : Bands} (hb : b.Ok) (band : Int) : ∀ ks, 0 ≤ b.lowest band ks ∧ b.lowest band ks ≤ b.T
  | [] => by have := hb.T; unfold Bands.lowest; omega
  | n :: l => by
    have hT := hb.T
    have ih := lowest_le hb band l
    unfold Bands.lowest
    split
    · have : 0 ≤ b.tr n := Int.emod_nonneg _ (by omega)
      omega
    · exact ih

theorem slots_nonneg {b : Bands} (band : Int) : ∀ ks, 0 ≤ b.slots band ks ∧ b.slots band ks ≤ ks.length
  | [] => by simp [Bands.slots]
  | n :: l => by
    have ih := slots_nonneg (b := b) band l
    unfold Bands.slots
    simp only [List.length_cons]
    split <;> omega

theorem N_bounds {b : Bands} (hb : b.Ok) : 1 ≤ b.N ∧ b.N ≤ 144 ∧ 1 ≤ b.B * b.T ∧ b.B * b.T ≤ 36 := by
  have hB := hb.B
  have hT := hb.T
  have hK := hb.K
  have h1 : b.B * b.T ≤ 36 := Int.le_trans (Int.mul_le_mul hB.2 hT.2 (by omega) (by omega)) (by omega)
  have h0 : 1 ≤ b.B * b.T := Int.le_trans (by omega) (Int.mul_le_mul hB.1 hT.1 (by omega) (by omega))
  have h2 : b.B * b.T * b.K ≤ 144 := Int.le_trans (Int.mul_le_mul h1 hK.2 (by omega) (by omega)) (by omega)
  have h3 : 1 ≤ b.B * b.T * b.K := Int.le_trans (by omega) (Int.mul_le_mul h0 hK.1 (by omega) (by omega))
  exact ⟨h3, h2, h0, h1⟩

theorem bd_lt {b : Bands} (hb : b.Ok) {n : Int} (h : 0 ≤ n ∧ n < b.N) : 0 ≤ b.bd n ∧ b.bd n < b.B := by
  have hB := hb.B
  have hT := hb.T
  have hK := hb.K
  unfold Bands.bd Bands.N at *
  refine ⟨Int.ediv_nonneg (Int.ediv_nonneg h.1 (by omega)) (by omega), ?_⟩
  apply Int.ediv_lt_of_lt_mul (by omega)
  apply Int.ediv_lt_of_lt_mul (by omega)
  exact h.2

theorem mem_ins {w : Int × Int} : ∀ {l : List (Int × Int)}, Asc l → ∀ n, n ∈ (ins w l).map Prod.fst ↔ n = w.1 ∨ n ∈ l.map Prod.fst
  | [], _, n => by simp [ins]
  | x :: l, h, n => by
    have ih := mem_ins (w := w) (List.pairwise_cons.1 h).2 n
    unfold ins
    split
    · simp only [List.map_cons, List.mem_cons, ih]
      constructor
      · rintro (h | h | h) <;> simp [h]
      · rintro (h | h | h) <;> simp [h]
    · split
      · rename_i he
        simp [he]
      · simp

theorem look_ins {w : Int × Int} : ∀ {l : List (Int × Int)}, Asc l → ∀ n, look (ins w l) n = if n = w.1 then w.2 else look l n
  | [], _, n => by
    unfold ins look
    by_cases h : n = w.1
    · simp [h]
    · have h2 : ¬ w.1 = n := fun e => h e.symm
      simp [h, h2]
  | x :: l, h, n => by
    have ih := look_ins (w := w) (List.pairwise_cons.1 h).2 n
    have hd := (List.pairwise_cons.1 h).1
    unfold ins
    split
    · rename_i hlt
      unfold look at ih ⊢
      by_cases hx : x.1 = n
      · rw [if_neg (by omega)]
        simp [hx]
      · have e1 : (x.1 == n) = false := by simpa using hx
        simp only [List.find?_cons, e1]
        exact ih
    · split
      · rename_i he
        unfold look
        by_cases hn : n = w.1
        · rw [if_pos hn]; simp [hn]
        · have e1 : (w.1 == n) = false := by simpa using fun h => hn h.symm
          have e2 : (x.1 == n) = false := by simpa using fun h => hn (by omega)
          rw [if_neg hn]
          simp only [List.find?_cons, e1, e2]
      · rename_i h1 h2
        unfold look
        by_cases hn : n = w.1
        · rw [if_pos hn]; simp [hn]
        · have e1 : (w.1 == n) = false := by simpa using fun h => hn h.symm
          rw [if_neg hn]
          simp only [List.find?_cons, e1]

theorem ins_asc {w : Int × Int} : ∀ {l : List (Int × Int)}, Asc l → Asc (ins w l)
  | [], _ => by simp [ins, Asc]
  | x :: l, h => by
    have h1 := List.pairwise_cons.1 h
    have ih := ins_asc (w := w) h1.2
    unfold ins
    split
    · rename_i hlt
      refine List.pairwise_cons.2 ⟨fun y hy => ?_, ih⟩
      have : y.1 ∈ (ins w l).map Prod.fst := List.mem_map.2 ⟨y, hy, rfl⟩
      rcases (mem_ins h1.2 y.1).1 this with h | h
      · omega
      · obtain ⟨z, hz, he⟩ := List.mem_map.1 h
        have := h1.1 z hz
        omega
    · split
      · rename_i he
        exact List.pairwise_cons.2 ⟨fun y hy => by have := h1.1 y hy; omega, h1.2⟩
      · rename_i h2 h3
        refine List.pairwise_cons.2 ⟨fun y hy => ?_, h⟩
        rcases List.mem_cons.1 hy with rfl | hy
        · omega
        · have := h1.1 y hy; omega

theorem ins_length {w : Int × Int} : ∀ {l : List (Int × Int)}, Asc l → (ins w l).length = if w.1 ∈ l.map Prod.fst then l.length else l.length + 1
  | [], _ => by simp [ins]
  | x :: l, h => by
    have h1 := List.pairwise_cons.1 h
    have ih := ins_length (w := w) h1.2
    unfold ins
    split
    · rename_i hlt
      have hne : w.1 ≠ x.1 := by omega
      simp only [List.length_cons, ih, List.map_cons, List.mem_cons, hne, false_or]
      split <;> rfl
    · split
      · rename_i he
        simp [he]
      · rename_i h2 h3
        have hnot : w.1 ∉ (x :: l).map Prod.fst := by
          intro hm
          obtain ⟨z, hz, he⟩ := List.mem_map.1 hm
          rcases List.mem_cons.1 hz with rfl | hz
          · exact h3 he
          · have := h1.1 z hz; omega
        rw [if_neg hnot]
        rfl

theorem Asc.filter {l : List (Int × Int)} (h : Asc l) (p : Int × Int → Bool) : Asc (l.filter p) := List.Pairwise.filter p h

theorem Asc.keys_nodup {l : List (Int × Int)} (h : Asc l) : (l.map Prod.fst).Nodup := by
  rw [List.Nodup, List.pairwise_map]
  exact h.imp (fun h e => by omega)

end Go.Proofs


namespace Go.Proofs
open Go Go.Sx
set_option maxRecDepth 100000
set_option maxHeartbeats 4000000
-- SxAid2

def domOf (l : List (Int × Int)) (k : List Int) : Prop := k.headD 0 ∈ l.map Prod.fst
def valOf (l : List (Int × Int)) (k : List Int) : List V := [.int .i64 (look l (k.headD 0))]

/-- the objects of a drive -/
def St.o0 (b : Bands) (s : St) : O := .cells 70 [.int .i64 b.B, .int .i64 b.T, .int .i64 b.K, .int .i64 b.C, .int .i64 b.L, .osl 1 b.N.toNat, .lit (.slice none 0 0), .osl 2 b.B.toNat, .int .i64 s.cost, .int .i64 s.cleaned, .int .i64 s.refreshed, .map 3]
def St.o1 (b : Bands) (s : St) : O := .row 3 1 b.N.toNat (fun j => [.int .i64 (s.med j)]) false
def St.o2 (b : Bands) (s : St) : O := .row 3 1 b.B.toNat (fun j => [.int .i64 (s.cnt j)]) false
def St.o3 (s : St) (g : MG) : O := .map [.i64] false false (domOf s.cch) (valOf s.cch) s.cch.length g
def St.heap (b : Bands) (s : St) (g : MG) : List O := [s.o0 b, s.o1 b, s.o2 b, s.o3 g]

theorem ite_upd {p : Prop} {d : Decidable p} {f : Nat → Int} {i j : Nat} {v : Int} (h : p ↔ j = i) : @ite _ p d v (f j) = upd f i v j := by
  unfold upd
  by_cases hp : j = i
  · rw [if_pos (h.2 hp), if_pos hp]
  · rw [if_neg (fun e => hp (h.1 e)), if_neg hp]

theorem squeeze57 (b : Bands) (hb : b.Ok) (s : St) (hs : s.Ok b) (hco : 0 ≤ s.cost ∧ s.cost ≤ 2000000) (hre : 0 ≤ s.refreshed ∧ s.refreshed ≤ 2000000) (band : Nat) (hbd : band ≤ 100) (g : MG) :
    Sx.Callee Try.prog 57 [.ptr 0 0, .int .i64 band] (s.heap b g) (fun r H => r = .tup [] ∧ H = (s.sqz b (b.B.toNat - band) band).heap b g) := by
  have hB := hb.B
  have hT := hb.T
  have hL := hb.L
  refine callee_ent Try.E_ok Try.func57 rfl (by kernel_rfl) ?_
  (repeat' ((conv => whnf); (first | ((first | with_reducible refine spl (fun hc => ?_) (fun hc => ?_) | with_reducible refine spl' (fun hc => ?_) (fun hc => ?_)) <;> try (exfalso; omega)) | with_reducible refine imp_intro (fun hc => ?_) | refine vcq (k := ?_) | refine dr 14 (k := ?_)))); all_goals (try conv => whnf); all_goals (try with_reducible exact trivial)
  refine ⟨Nat × St, fun i => band ≤ i.1 ∧ i.2.Ok b ∧ i.2.sqz b (b.B.toNat - i.1) i.1 = s.sqz b (b.B.toNat - band) band ∧ (0 ≤ i.2.cost ∧ i.2.cost ≤ s.cost + 6 * (i.1 - band)) ∧ (0 ≤ i.2.refreshed ∧ i.2.refreshed ≤ s.refreshed + (i.1 - band)) ∧ (i.1 ≤ band ∨ i.1 ≤ b.B), fun i => b.B.toNat - i.1,
    fun i => [(1, .int .i64 i.1)], fun i => [(0, i.2.o0 b), (1, i.2.o1 b), (2, i.2.o2 b), (3, i.2.o3 g)], fun _ => [], (band, s), ⟨⟨by simp, hs, rfl, by dsimp only; omega, by dsimp only; omega, .inl (Nat.le_refl _)⟩, some [some 0, some 1, some 2, some 3], ?_⟩, ?_⟩
  · (repeat' ((conv => whnf); (first | ((first | with_reducible refine spl (fun hc => ?_) (fun hc => ?_) | with_reducible refine spl' (fun hc => ?_) (fun hc => ?_)) <;> try (exfalso; omega)) | with_reducible refine imp_intro (fun hc => ?_) | refine vcq (k := ?_) | refine dr 14 (k := ?_)))); all_goals (try conv => whnf); all_goals (try with_reducible exact trivial)
  · rintro ⟨i, t⟩ ⟨h1, h2, h3, h4, h5, h6⟩
    dsimp only at h1 h2 h3 h4 h5 h6
    have hci := h2.cnt ((i : Int).toNat)
    have hti : (i : Int).toNat = i := Int.toNat_natCast i
    (repeat' ((conv => whnf); (first | ((first | with_reducible refine spl (fun hc => ?_) (fun hc => ?_) | with_reducible refine spl' (fun hc => ?_) (fun hc => ?_)) <;> try (exfalso; omega)) | with_reducible refine imp_intro (fun hc => ?_) | refine vcq (k := ?_) | refine dr 14 (k := ?_)))); all_goals (try conv => whnf); all_goals (try with_reducible exact trivial)
    · rename_i hlt
      have hlt : (i : Int) < b.B.toNat := hlt
      rw [if_pos rfl] at hc
      dsimp only at hc
      rw [hti] at hc
      have e : s.sqz b (b.B.toNat - band) band = { t with cnt := upd t.cnt i (t.cnt i + 1) } := by
        rw [← h3]
        obtain ⟨k, hk⟩ : ∃ k, b.B.toNat - i = k + 1 := ⟨b.B.toNat - i - 1, by omega⟩
        rw [hk, St.sqz, if_pos hc]
      rw [e]
      refine ⟨_, _, ⟨rfl, rfl⟩, some [some 0, some 1, some 2, some 3], ?_⟩
      (repeat' ((conv => whnf); (first | ((first | with_reducible refine spl (fun hc => ?_) (fun hc => ?_) | with_reducible refine spl' (fun hc => ?_) (fun hc => ?_)) <;> try (exfalso; omega)) | with_reducible refine imp_intro (fun hc => ?_) | refine vcq (k := ?_) | refine dr 14 (k := ?_)))); all_goals (try conv => whnf); all_goals (try with_reducible exact trivial)
      refine ⟨fun j _ => congrArg (fun x => [V.int .i64 x]) (by rw [hti]; exact ite_upd Iff.rfl), ?_⟩
      (repeat' ((conv => whnf); (first | ((first | with_reducible refine spl (fun hc => ?_) (fun hc => ?_) | with_reducible refine spl' (fun hc => ?_) (fun hc => ?_)) <;> try (exfalso; omega)) | with_reducible refine imp_intro (fun hc => ?_) | refine vcq (k := ?_) | refine dr 14 (k := ?_)))); all_goals (try conv => whnf); all_goals (try with_reducible exact trivial)
    · rename_i hlt
      have hlt : (i : Int) < b.B.toNat := hlt
      rw [if_pos rfl] at hc
      dsimp only at hc
      rw [hti] at hc
      have e : St.sqz b (b.B.toNat - (i + 1)) (i + 1) { t with cnt := upd t.cnt i 0, cost := t.cost + b.T, refreshed := t.refreshed + 1 } = s.sqz b (b.B.toNat - band) band := by
        rw [← h3]
        obtain ⟨k, hk⟩ : ∃ k, b.B.toNat - i = k + 1 := ⟨b.B.toNat - i - 1, by omega⟩
        rw [hk, St.sqz, if_neg hc, show b.B.toNat - (i + 1) = k by omega]
      refine ⟨(i + 1, { t with cnt := upd t.cnt i 0, cost := t.cost + b.T, refreshed := t.refreshed + 1 }), ⟨⟨by dsimp only; omega, ⟨h2.asc, h2.blk, h2.len, upd_cnt h2.cnt (by omega)⟩, e, by dsimp only; omega, by dsimp only; omega, by dsimp only; omega⟩, by dsimp only; omega⟩, some [some 0, some 1, some 2, some 3], ?_⟩
      (repeat' ((conv => whnf); (first | ((first | with_reducible refine spl (fun hc => ?_) (fun hc => ?_) | with_reducible refine spl' (fun hc => ?_) (fun hc => ?_)) <;> try (exfalso; omega)) | with_reducible refine imp_intro (fun hc => ?_) | refine vcq (k := ?_) | refine dr 14 (k := ?_)))); all_goals (try conv => whnf); all_goals (try with_reducible exact trivial)
      refine ⟨fun j _ => congrArg (fun x => [V.int .i64 x]) (by rw [hti]; unfold upd; split <;> simp_all), ?_⟩
      (repeat' ((conv => whnf); (first | ((first | with_reducible refine spl (fun hc => ?_) (fun hc => ?_) | with_reducible refine spl' (fun hc => ?_) (fun hc => ?_)) <;> try (exfalso; omega)) | with_reducible refine imp_intro (fun hc => ?_) | refine vcq (k := ?_) | refine dr 14 (k := ?_)))); all_goals (try conv => whnf); all_goals (try with_reducible exact trivial)
    · have e : s.sqz b (b.B.toNat - band) band = t := by
        have hc : ¬ (i : Int) < b.B.toNat := hc
        rw [← h3, show b.B.toNat - i = 0 by omega, St.sqz]
      rw [e]
      refine ⟨_, _, ⟨rfl, rfl⟩, some [some 0, some 1, some 2, some 3], ?_⟩
      (repeat' ((conv => whnf); (first | ((first | with_reducible refine spl (fun hc => ?_) (fun hc => ?_) | with_reducible refine spl' (fun hc => ?_) (fun hc => ?_)) <;> try (exfalso; omega)) | with_reducible refine imp_intro (fun hc => ?_) | refine vcq (k := ?_) | refine dr 14 (k := ?_)))); all_goals (try conv => whnf); all_goals (try with_reducible exact trivial)
end Go.Proofs


namespace Go.Proofs
open Go Go.Sx
set_option maxRecDepth 100000
set_option maxHeartbeats 4000000
-- SxAid2

def intC (n : Int) : List V := [.int .i64 n]

theorem or62 (x y : Int) : PureC Try.prog 62 false [.sl 1 2 (rowOf intC 0 [x, y])] (· = .int .i64 (if x = 0 then y else x)) := by
  refine pureC_of_exec Try.E_ok Try.func62 rfl (by kernel_rfl) ?_
  (repeat' ((conv => whnf); (first | ((first | with_reducible refine spl (fun hc => ?_) (fun hc => ?_) | with_reducible refine spl' (fun hc => ?_) (fun hc => ?_)) <;> try (exfalso; omega)) | with_reducible refine imp_intro (fun hc => ?_) | refine vcq (k := ?_) | refine dr 1 (k := ?_) | refine dr 2 (k := ?_) | refine dr 3 (k := ?_) | refine dr 4 (k := ?_) | refine dr 5 (k := ?_) | refine dr 6 (k := ?_) | refine dr 7 (k := ?_) | refine dr 8 (k := ?_) | refine dr 9 (k := ?_) | refine dr 10 (k := ?_) | refine dr 11 (k := ?_) | refine dr 12 (k := ?_) | refine dr 1001 (k := ?_) | refine dr 1002 (k := ?_) | refine dr 1003 (k := ?_) | refine dr 1004 (k := ?_) | refine dr 1005 (k := ?_) | refine dr 1006 (k := ?_) | refine dr 1007 (k := ?_) | refine dr 1008 (k := ?_) | refine dr 1009 (k := ?_) | refine dr 1010 (k := ?_) | refine dr 1011 (k := ?_) | refine dr 1012 (k := ?_) | refine dr 1013 (k := ?_) | refine dr 1014 (k := ?_) | refine dr 1015 (k := ?_) | refine dr 1016 (k := ?_)))); all_goals (try conv => whnf); all_goals (try with_reducible exact trivial)
  refine ⟨Nat, fun i => i ≤ 2 ∧ (1 ≤ i → x = 0) ∧ (2 ≤ i → y = 0), fun i => 2 - i, fun i => [(8, .int .i64 i)], fun _ => [], fun _ => [], 0, ⟨⟨by omega, by omega, by omega⟩, none, ?_⟩, ?_⟩
  · (repeat' ((conv => whnf); (first | ((first | with_reducible refine spl (fun hc => ?_) (fun hc => ?_) | with_reducible refine spl' (fun hc => ?_) (fun hc => ?_)) <;> try (exfalso; omega)) | with_reducible refine imp_intro (fun hc => ?_) | refine vcq (k := ?_) | refine dr 1 (k := ?_) | refine dr 2 (k := ?_) | refine dr 3 (k := ?_) | refine dr 4 (k := ?_) | refine dr 5 (k := ?_) | refine dr 6 (k := ?_) | refine dr 7 (k := ?_) | refine dr 8 (k := ?_) | refine dr 9 (k := ?_) | refine dr 10 (k := ?_) | refine dr 11 (k := ?_) | refine dr 12 (k := ?_) | refine dr 1001 (k := ?_) | refine dr 1002 (k := ?_) | refine dr 1003 (k := ?_) | refine dr 1004 (k := ?_) | refine dr 1005 (k := ?_) | refine dr 1006 (k := ?_) | refine dr 1007 (k := ?_) | refine dr 1008 (k := ?_) | refine dr 1009 (k := ?_) | refine dr 1010 (k := ?_) | refine dr 1011 (k := ?_) | refine dr 1012 (k := ?_) | refine dr 1013 (k := ?_) | refine dr 1014 (k := ?_) | refine dr 1015 (k := ?_) | refine dr 1016 (k := ?_)))); all_goals (try conv => whnf); all_goals (try with_reducible exact trivial)
  · rintro i ⟨h1, h2, h3⟩
    (repeat' ((conv => whnf); (first | ((first | with_reducible refine spl (fun hc => ?_) (fun hc => ?_) | with_reducible refine spl' (fun hc => ?_) (fun hc => ?_)) <;> try (exfalso; omega)) | with_reducible refine imp_intro (fun hc => ?_) | refine vcq (k := ?_) | refine dr 1 (k := ?_) | refine dr 2 (k := ?_) | refine dr 3 (k := ?_) | refine dr 4 (k := ?_) | refine dr 5 (k := ?_) | refine dr 6 (k := ?_) | refine dr 7 (k := ?_) | refine dr 8 (k := ?_) | refine dr 9 (k := ?_) | refine dr 10 (k := ?_) | refine dr 11 (k := ?_) | refine dr 12 (k := ?_) | refine dr 1001 (k := ?_) | refine dr 1002 (k := ?_) | refine dr 1003 (k := ?_) | refine dr 1004 (k := ?_) | refine dr 1005 (k := ?_) | refine dr 1006 (k := ?_) | refine dr 1007 (k := ?_) | refine dr 1008 (k := ?_) | refine dr 1009 (k := ?_) | refine dr 1010 (k := ?_) | refine dr 1011 (k := ?_) | refine dr 1012 (k := ?_) | refine dr 1013 (k := ?_) | refine dr 1014 (k := ?_) | refine dr 1015 (k := ?_) | refine dr 1016 (k := ?_)))); all_goals (try conv => whnf); all_goals (try with_reducible exact trivial)
    · refine ⟨_, rfl, ?_⟩
      (repeat' ((conv => whnf); (first | ((first | with_reducible refine spl (fun hc => ?_) (fun hc => ?_) | with_reducible refine spl' (fun hc => ?_) (fun hc => ?_)) <;> try (exfalso; omega)) | with_reducible refine imp_intro (fun hc => ?_) | refine vcq (k := ?_) | refine dr 1 (k := ?_) | refine dr 2 (k := ?_) | refine dr 3 (k := ?_) | refine dr 4 (k := ?_) | refine dr 5 (k := ?_) | refine dr 6 (k := ?_) | refine dr 7 (k := ?_) | refine dr 8 (k := ?_) | refine dr 9 (k := ?_) | refine dr 10 (k := ?_) | refine dr 11 (k := ?_) | refine dr 12 (k := ?_) | refine dr 1001 (k := ?_) | refine dr 1002 (k := ?_) | refine dr 1003 (k := ?_) | refine dr 1004 (k := ?_) | refine dr 1005 (k := ?_) | refine dr 1006 (k := ?_) | refine dr 1007 (k := ?_) | refine dr 1008 (k := ?_) | refine dr 1009 (k := ?_) | refine dr 1010 (k := ?_) | refine dr 1011 (k := ?_) | refine dr 1012 (k := ?_) | refine dr 1013 (k := ?_) | refine dr 1014 (k := ?_) | refine dr 1015 (k := ?_) | refine dr 1016 (k := ?_)))); all_goals (try conv => whnf); all_goals (try with_reducible exact trivial)
      refine ⟨?_, trivial⟩
      match i, h1, h2, h3, hc with
      | 0, _, _, _, hc => simp at hc; simp [hc]
      | 1, _, h2, _, hc => simp at hc; simp [h2]
      | 2, _, _, _, hc => simp at hc
    · rename_i hlt
      refine ⟨i + 1, ⟨⟨by omega, fun _ => ?_, fun _ => ?_⟩, by dsimp only; omega⟩, none, ?_⟩
      · match i, hc with
        | 0, hc => simpa using hc
        | k + 1, _ => exact h2 (by omega)
      · have : i = 1 := by omega
        subst this
        simpa using hc
      · (repeat' ((conv => whnf); (first | ((first | with_reducible refine spl (fun hc => ?_) (fun hc => ?_) | with_reducible refine spl' (fun hc => ?_) (fun hc => ?_)) <;> try (exfalso; omega)) | with_reducible refine imp_intro (fun hc => ?_) | refine vcq (k := ?_) | refine dr 1 (k := ?_) | refine dr 2 (k := ?_) | refine dr 3 (k := ?_) | refine dr 4 (k := ?_) | refine dr 5 (k := ?_) | refine dr 6 (k := ?_) | refine dr 7 (k := ?_) | refine dr 8 (k := ?_) | refine dr 9 (k := ?_) | refine dr 10 (k := ?_) | refine dr 11 (k := ?_) | refine dr 12 (k := ?_) | refine dr 1001 (k := ?_) | refine dr 1002 (k := ?_) | refine dr 1003 (k := ?_) | refine dr 1004 (k := ?_) | refine dr 1005 (k := ?_) | refine dr 1006 (k := ?_) | refine dr 1007 (k := ?_) | refine dr 1008 (k := ?_) | refine dr 1009 (k := ?_) | refine dr 1010 (k := ?_) | refine dr 1011 (k := ?_) | refine dr 1012 (k := ?_) | refine dr 1013 (k := ?_) | refine dr 1014 (k := ?_) | refine dr 1015 (k := ?_) | refine dr 1016 (k := ?_)))); all_goals (try conv => whnf); all_goals (try with_reducible exact trivial)
    · refine ⟨_, rfl, ?_⟩
      have : i = 2 := by omega
      subst this
      rw [if_pos (h2 (by omega)), h3 (by omega)]
      (repeat' ((conv => whnf); (first | ((first | with_reducible refine spl (fun hc => ?_) (fun hc => ?_) | with_reducible refine spl' (fun hc => ?_) (fun hc => ?_)) <;> try (exfalso; omega)) | with_reducible refine imp_intro (fun hc => ?_) | refine vcq (k := ?_) | refine dr 1 (k := ?_) | refine dr 2 (k := ?_) | refine dr 3 (k := ?_) | refine dr 4 (k := ?_) | refine dr 5 (k := ?_) | refine dr 6 (k := ?_) | refine dr 7 (k := ?_) | refine dr 8 (k := ?_) | refine dr 9 (k := ?_) | refine dr 10 (k := ?_) | refine dr 11 (k := ?_) | refine dr 12 (k := ?_) | refine dr 1001 (k := ?_) | refine dr 1002 (k := ?_) | refine dr 1003 (k := ?_) | refine dr 1004 (k := ?_) | refine dr 1005 (k := ?_) | refine dr 1006 (k := ?_) | refine dr 1007 (k := ?_) | refine dr 1008 (k := ?_) | refine dr 1009 (k := ?_) | refine dr 1010 (k := ?_) | refine dr 1011 (k := ?_) | refine dr 1012 (k := ?_) | refine dr 1013 (k := ?_) | refine dr 1014 (k := ?_) | refine dr 1015 (k := ?_) | refine dr 1016 (k := ?_)))); all_goals (try conv => whnf); all_goals (try with_reducible exact trivial)

/-- a cleaning: band, cost, blocks -/
abbrev Job := Int × Int × Int
def jobC (j : Job) : List V := [.int .i64 j.1, .int .i64 j.2.1, .int .i64 j.2.2]
def jobV (j : Job) : V := .agg [.int .i64 j.1, .int .i64 j.2.1, .int .i64 j.2.2]
structure Job.Small (j : Job) : Prop where
  a : 0 ≤ j.1 ∧ j.1 ≤ 100
  b : 0 ≤ j.2.1 ∧ j.2.1 ≤ 100
  c : 0 ≤ j.2.2 ∧ j.2.2 ≤ 100

def jobCmp (j m : Job) : Int := if j.2.1 * m.2.2 - m.2.1 * j.2.2 = 0 then j.1 - m.1 else j.2.1 * m.2.2 - m.2.1 * j.2.2

theorem cmp61 (j m : Job) (hj : j.Small) (hm : m.Small) : PureC Try.prog 61 false [jobV j, jobV m] (· = .int .i64 (jobCmp j m)) := by
  obtain ⟨a1, b1, c1⟩ := hj
  obtain ⟨a2, b2, c2⟩ := hm
  have e1 : 0 ≤ j.2.1 * m.2.2 ∧ j.2.1 * m.2.2 ≤ 10000 := ⟨Int.mul_nonneg b1.1 c2.1, Int.le_trans (Int.mul_le_mul b1.2 c2.2 c2.1 (by omega)) (by omega)⟩
  have e2 : 0 ≤ m.2.1 * j.2.2 ∧ m.2.1 * j.2.2 ≤ 10000 := ⟨Int.mul_nonneg b2.1 c1.1, Int.le_trans (Int.mul_le_mul b2.2 c1.2 c1.1 (by omega)) (by omega)⟩
  refine pureC_of_exec Try.E_ok Try.func61 rfl (by kernel_rfl) ?_
  (repeat' ((conv => whnf); (first | ((first | with_reducible refine spl (fun hc => ?_) (fun hc => ?_) | with_reducible refine spl' (fun hc => ?_) (fun hc => ?_)) <;> try (exfalso; omega)) | with_reducible refine imp_intro (fun hc => ?_) | refine vcq (k := ?_) | refine dr 1 (k := ?_) | refine dr 2 (k := ?_) | refine dr 3 (k := ?_) | refine dr 4 (k := ?_) | refine dr 5 (k := ?_) | refine dr 6 (k := ?_) | refine dr 7 (k := ?_) | refine dr 8 (k := ?_) | refine dr 9 (k := ?_) | refine dr 10 (k := ?_) | refine dr 11 (k := ?_) | refine dr 12 (k := ?_) | refine dr 1001 (k := ?_) | refine dr 1002 (k := ?_) | refine dr 1003 (k := ?_) | refine dr 1004 (k := ?_) | refine dr 1005 (k := ?_) | refine dr 1006 (k := ?_) | refine dr 1007 (k := ?_) | refine dr 1008 (k := ?_) | refine dr 1009 (k := ?_) | refine dr 1010 (k := ?_) | refine dr 1011 (k := ?_) | refine dr 1012 (k := ?_) | refine dr 1013 (k := ?_) | refine dr 1014 (k := ?_) | refine dr 1015 (k := ?_) | refine dr 1016 (k := ?_)))); all_goals (try conv => whnf); all_goals (try with_reducible exact trivial)
  refine callee_view (or62 (j.2.1 * m.2.2 - m.2.1 * j.2.2) (j.1 - m.1)) ?_
  (repeat' ((conv => whnf); (first | ((first | with_reducible refine spl (fun hc => ?_) (fun hc => ?_) | with_reducible refine spl' (fun hc => ?_) (fun hc => ?_)) <;> try (exfalso; omega)) | with_reducible refine imp_intro (fun hc => ?_) | refine vcq (k := ?_) | refine dr 1 (k := ?_) | refine dr 2 (k := ?_) | refine dr 3 (k := ?_) | refine dr 4 (k := ?_) | refine dr 5 (k := ?_) | refine dr 6 (k := ?_) | refine dr 7 (k := ?_) | refine dr 8 (k := ?_) | refine dr 9 (k := ?_) | refine dr 10 (k := ?_) | refine dr 11 (k := ?_) | refine dr 12 (k := ?_) | refine dr 1001 (k := ?_) | refine dr 1002 (k := ?_) | refine dr 1003 (k := ?_) | refine dr 1004 (k := ?_) | refine dr 1005 (k := ?_) | refine dr 1006 (k := ?_) | refine dr 1007 (k := ?_) | refine dr 1008 (k := ?_) | refine dr 1009 (k := ?_) | refine dr 1010 (k := ?_) | refine dr 1011 (k := ?_) | refine dr 1012 (k := ?_) | refine dr 1013 (k := ?_) | refine dr 1014 (k := ?_) | refine dr 1015 (k := ?_) | refine dr 1016 (k := ?_)))); all_goals (try conv => whnf); all_goals (try with_reducible exact trivial)
  refine ⟨fun i hi => ?_, .inl rfl, ?_⟩
  · match i, hi with
    | 0, _ => rfl
    | 1, _ => rfl
  · (repeat' ((conv => whnf); (first | ((first | with_reducible refine spl (fun hc => ?_) (fun hc => ?_) | with_reducible refine spl' (fun hc => ?_) (fun hc => ?_)) <;> try (exfalso; omega)) | with_reducible refine imp_intro (fun hc => ?_) | refine vcq (k := ?_) | refine dr 1 (k := ?_) | refine dr 2 (k := ?_) | refine dr 3 (k := ?_) | refine dr 4 (k := ?_) | refine dr 5 (k := ?_) | refine dr 6 (k := ?_) | refine dr 7 (k := ?_) | refine dr 8 (k := ?_) | refine dr 9 (k := ?_) | refine dr 10 (k := ?_) | refine dr 11 (k := ?_) | refine dr 12 (k := ?_) | refine dr 1001 (k := ?_) | refine dr 1002 (k := ?_) | refine dr 1003 (k := ?_) | refine dr 1004 (k := ?_) | refine dr 1005 (k := ?_) | refine dr 1006 (k := ?_) | refine dr 1007 (k := ?_) | refine dr 1008 (k := ?_) | refine dr 1009 (k := ?_) | refine dr 1010 (k := ?_) | refine dr 1011 (k := ?_) | refine dr 1012 (k := ?_) | refine dr 1013 (k := ?_) | refine dr 1014 (k := ?_) | refine dr 1015 (k := ?_) | refine dr 1016 (k := ?_)))); all_goals (try conv => whnf); all_goals (try with_reducible exact trivial)
    rintro _ rfl
    (repeat' ((conv => whnf); (first | ((first | with_reducible refine spl (fun hc => ?_) (fun hc => ?_) | with_reducible refine spl' (fun hc => ?_) (fun hc => ?_)) <;> try (exfalso; omega)) | with_reducible refine imp_intro (fun hc => ?_) | refine vcq (k := ?_) | refine dr 1 (k := ?_) | refine dr 2 (k := ?_) | refine dr 3 (k := ?_) | refine dr 4 (k := ?_) | refine dr 5 (k := ?_) | refine dr 6 (k := ?_) | refine dr 7 (k := ?_) | refine dr 8 (k := ?_) | refine dr 9 (k := ?_) | refine dr 10 (k := ?_) | refine dr 11 (k := ?_) | refine dr 12 (k := ?_) | refine dr 1001 (k := ?_) | refine dr 1002 (k := ?_) | refine dr 1003 (k := ?_) | refine dr 1004 (k := ?_) | refine dr 1005 (k := ?_) | refine dr 1006 (k := ?_) | refine dr 1007 (k := ?_) | refine dr 1008 (k := ?_) | refine dr 1009 (k := ?_) | refine dr 1010 (k := ?_) | refine dr 1011 (k := ?_) | refine dr 1012 (k := ?_) | refine dr 1013 (k := ?_) | refine dr 1014 (k := ?_) | refine dr 1015 (k := ?_) | refine dr 1016 (k := ?_)))); all_goals (try conv => whnf); all_goals (try with_reducible exact trivial)
    refine ⟨_, rfl, ?_⟩
    (repeat' ((conv => whnf); (first | ((first | with_reducible refine spl (fun hc => ?_) (fun hc => ?_) | with_reducible refine spl' (fun hc => ?_) (fun hc => ?_)) <;> try (exfalso; omega)) | with_reducible refine imp_intro (fun hc => ?_) | refine vcq (k := ?_) | refine dr 1 (k := ?_) | refine dr 2 (k := ?_) | refine dr 3 (k := ?_) | refine dr 4 (k := ?_) | refine dr 5 (k := ?_) | refine dr 6 (k := ?_) | refine dr 7 (k := ?_) | refine dr 8 (k := ?_) | refine dr 9 (k := ?_) | refine dr 10 (k := ?_) | refine dr 11 (k := ?_) | refine dr 12 (k := ?_) | refine dr 1001 (k := ?_) | refine dr 1002 (k := ?_) | refine dr 1003 (k := ?_) | refine dr 1004 (k := ?_) | refine dr 1005 (k := ?_) | refine dr 1006 (k := ?_) | refine dr 1007 (k := ?_) | refine dr 1008 (k := ?_) | refine dr 1009 (k := ?_) | refine dr 1010 (k := ?_) | refine dr 1011 (k := ?_) | refine dr 1012 (k := ?_) | refine dr 1013 (k := ?_) | refine dr 1014 (k := ?_) | refine dr 1015 (k := ?_) | refine dr 1016 (k := ?_)))); all_goals (try conv => whnf); all_goals (try with_reducible exact trivial)

def jobStep (m j : Job) : Job := if jobCmp j m < 0 then j else m

theorem getD_mem {α : Type} {l : List α} {d : α} {i : Nat} (h : i < l.length) : l.getD i d ∈ l := by
  rw [List.getD_eq_getElem?_getD, List.getElem?_eq_getElem h]
  exact List.getElem_mem h

theorem take_succ_getD {α : Type} {l : List α} (d : α) {i : Nat} (h : i < l.length) : l.take (i + 1) = l.take i ++ [l.getD i d] := by
  rw [List.take_succ_eq_append_getElem h, List.getD_eq_getElem?_getD, List.getElem?_eq_getElem h]
  rfl

theorem minFunc60 (x : Job) (l : List Job) (hl : l.length ≤ 100) (hx : x.Small) (hs : ∀ j ∈ l, j.Small) : PureC Try.prog 60 false [.sl 3 (l.length + 1) (rowOf jobC (0, 0, 0) (x :: l)), .fn (.func 61) [] []] (· = jobV (l.foldl jobStep x)) := by
  refine pureC_of_exec Try.E_ok Try.func60 rfl (by kernel_rfl) ?_
  (repeat' ((conv => whnf); (first | ((first | with_reducible refine spl (fun hc => ?_) (fun hc => ?_) | with_reducible refine spl' (fun hc => ?_) (fun hc => ?_)) <;> try (exfalso; omega)) | with_reducible refine imp_intro (fun hc => ?_) | refine vcq (k := ?_) | refine dr 8 (k := ?_) | refine dr 16 (k := ?_)))); all_goals (try conv => whnf); all_goals (try with_reducible exact trivial)
  refine ⟨Nat × Job, fun i => i.1 ≤ l.length ∧ i.2.Small ∧ i.2 = (l.take i.1).foldl jobStep x, fun i => l.length - i.1, fun i => [(6, .int .i64 (i.1 + 1))], fun i => [(1, .cells 75 [.int .i64 i.2.1, .int .i64 i.2.2.1, .int .i64 i.2.2.2])], fun _ => [], (0, x), ⟨⟨by simp, hx, by simp⟩, some [some 0, some 1], ?_⟩, ?_⟩
  · (repeat' ((conv => whnf); (first | ((first | with_reducible refine spl (fun hc => ?_) (fun hc => ?_) | with_reducible refine spl' (fun hc => ?_) (fun hc => ?_)) <;> try (exfalso; omega)) | with_reducible refine imp_intro (fun hc => ?_) | refine vcq (k := ?_) | refine dr 8 (k := ?_) | refine dr 16 (k := ?_)))); all_goals (try conv => whnf); all_goals (try with_reducible exact trivial)
  · rintro ⟨i, m⟩ ⟨h1, h2, h3⟩
    dsimp only at h1 h2 h3
    by_cases hi : i < l.length
    · have e0 : ((i : Int) + 1).toNat = i + 1 := by omega
      have e1 : (x :: l).getD ((i : Int) + 1).toNat (0, 0, 0) = l.getD i (0, 0, 0) := by rw [e0]; simp
      have hjs := hs _ (getD_mem (d := (0, 0, 0)) hi)
      generalize hj : l.getD i (0, 0, 0) = j at *
      have hfold : (l.take (i + 1)).foldl jobStep x = jobStep m j := by rw [take_succ_getD (0, 0, 0) hi, List.foldl_append, ← h3, hj]; rfl
      (repeat' ((conv => whnf); (first | ((first | with_reducible refine spl (fun hc => ?_) (fun hc => ?_) | with_reducible refine spl' (fun hc => ?_) (fun hc => ?_)) <;> try (exfalso; omega)) | with_reducible refine imp_intro (fun hc => ?_) | refine vcq (k := ?_) | refine dr 8 (k := ?_) | refine dr 16 (k := ?_)))); all_goals (try conv => whnf); all_goals (try with_reducible exact trivial)
      refine pcall_intro (cmp61 ((x :: l).getD ((i : Int) + 1).toNat (0, 0, 0)) m (by rw [e1]; exact hjs) h2) rfl ?_
      (repeat' ((conv => whnf); (first | ((first | with_reducible refine spl (fun hc => ?_) (fun hc => ?_) | with_reducible refine spl' (fun hc => ?_) (fun hc => ?_)) <;> try (exfalso; omega)) | with_reducible refine imp_intro (fun hc => ?_) | refine vcq (k := ?_) | refine dr 8 (k := ?_) | refine dr 16 (k := ?_)))); all_goals (try conv => whnf); all_goals (try with_reducible exact trivial)
      · rw [e1] at hc
        refine ⟨(i + 1, j), ⟨⟨by dsimp only; omega, hjs, ?_⟩, by dsimp only; omega⟩, some [some 0, some 1], ?_⟩
        · dsimp only
          rw [hfold, jobStep, if_pos hc]
        · rw [← e1]
          (repeat' ((conv => whnf); (first | ((first | with_reducible refine spl (fun hc => ?_) (fun hc => ?_) | with_reducible refine spl' (fun hc => ?_) (fun hc => ?_)) <;> try (exfalso; omega)) | with_reducible refine imp_intro (fun hc => ?_) | refine vcq (k := ?_) | refine dr 8 (k := ?_) | refine dr 16 (k := ?_)))); all_goals (try conv => whnf); all_goals (try with_reducible exact trivial)
      · rw [e1] at hc
        refine ⟨(i + 1, m), ⟨⟨by dsimp only; omega, h2, ?_⟩, by dsimp only; omega⟩, some [some 0, some 1], ?_⟩
        · dsimp only
          rw [hfold, jobStep, if_neg hc]
        · (repeat' ((conv => whnf); (first | ((first | with_reducible refine spl (fun hc => ?_) (fun hc => ?_) | with_reducible refine spl' (fun hc => ?_) (fun hc => ?_)) <;> try (exfalso; omega)) | with_reducible refine imp_intro (fun hc => ?_) | refine vcq (k := ?_) | refine dr 8 (k := ?_) | refine dr 16 (k := ?_)))); all_goals (try conv => whnf); all_goals (try with_reducible exact trivial)
    · obtain rfl : i = l.length := by omega
      rw [List.take_length] at h3
      (repeat' ((conv => whnf); (first | ((first | with_reducible refine spl (fun hc => ?_) (fun hc => ?_) | with_reducible refine spl' (fun hc => ?_) (fun hc => ?_)) <;> try (exfalso; omega)) | with_reducible refine imp_intro (fun hc => ?_) | refine vcq (k := ?_) | refine dr 8 (k := ?_) | refine dr 16 (k := ?_)))); all_goals (try conv => whnf); all_goals (try with_reducible exact trivial)
      refine ⟨_, rfl, ?_⟩
      rw [← h3]
      (repeat' ((conv => whnf); (first | ((first | with_reducible refine spl (fun hc => ?_) (fun hc => ?_) | with_reducible refine spl' (fun hc => ?_) (fun hc => ?_)) <;> try (exfalso; omega)) | with_reducible refine imp_intro (fun hc => ?_) | refine vcq (k := ?_) | refine dr 8 (k := ?_) | refine dr 16 (k := ?_)))); all_goals (try conv => whnf); all_goals (try with_reducible exact trivial)

/-- the jobs with blocks -/
def Job.has (j : Job) : Bool := !(j.2.2 == 0)

theorem has54 (j : Job) : PureC Try.prog 54 false [jobV j] (· = .prop (j.2.2 = 0) inferInstance) := by
  refine pureC_of_exec Try.E_ok Try.func54 rfl (by kernel_rfl) ?_
  (repeat' ((conv => whnf); (first | ((first | with_reducible refine spl (fun hc => ?_) (fun hc => ?_) | with_reducible refine spl' (fun hc => ?_) (fun hc => ?_)) <;> try (exfalso; omega)) | with_reducible refine imp_intro (fun hc => ?_) | refine vcq (k := ?_) | refine dr 8 (k := ?_) | refine dr 16 (k := ?_)))); all_goals (try conv => whnf); all_goals (try with_reducible exact trivial)
  refine ⟨_, rfl, ?_⟩
  (repeat' ((conv => whnf); (first | ((first | with_reducible refine spl (fun hc => ?_) (fun hc => ?_) | with_reducible refine spl' (fun hc => ?_) (fun hc => ?_)) <;> try (exfalso; omega)) | with_reducible refine imp_intro (fun hc => ?_) | refine vcq (k := ?_) | refine dr 8 (k := ?_) | refine dr 16 (k := ?_)))); all_goals (try conv => whnf); all_goals (try with_reducible exact trivial)

theorem index69 (l : List Job) (hl : l.length ≤ 100) : PureC Try.prog 69 false [.sl 3 l.length (rowOf jobC (0, 0, 0) l), .fn (.func 54) [] []] (fun r => ∃ i : Nat, i ≤ l.length ∧ (∀ k, k < i → (l.getD k (0, 0, 0)).has = true) ∧ (i < l.length → (l.getD i (0, 0, 0)).has = false) ∧ r = .int .i64 (if i < l.length then i else -1)) := by
  refine pureC_of_exec Try.E_ok Try.func69 rfl (by kernel_rfl) ?_
  (repeat' ((conv => whnf); (first | ((first | with_reducible refine spl (fun hc => ?_) (fun hc => ?_) | with_reducible refine spl' (fun hc => ?_) (fun hc => ?_)) <;> try (exfalso; omega)) | with_reducible refine imp_intro (fun hc => ?_) | refine vcq (k := ?_) | refine dr 8 (k := ?_) | refine dr 16 (k := ?_)))); all_goals (try conv => whnf); all_goals (try with_reducible exact trivial)
  refine ⟨Nat, fun i => i ≤ l.length ∧ (∀ k, k < i → (l.getD k (0, 0, 0)).has = true), fun i => l.length - i, fun i => [(8, .int .i64 i)], fun _ => [], fun _ => [], 0, ⟨⟨by omega, fun k hk => by omega⟩, none, ?_⟩, ?_⟩
  · (repeat' ((conv => whnf); (first | ((first | with_reducible refine spl (fun hc => ?_) (fun hc => ?_) | with_reducible refine spl' (fun hc => ?_) (fun hc => ?_)) <;> try (exfalso; omega)) | with_reducible refine imp_intro (fun hc => ?_) | refine vcq (k := ?_) | refine dr 8 (k := ?_) | refine dr 16 (k := ?_)))); all_goals (try conv => whnf); all_goals (try with_reducible exact trivial)
  · rintro i ⟨h1, h2⟩
    have hti : (i : Int).toNat = i := Int.toNat_natCast i
    (repeat' ((conv => whnf); (first | ((first | with_reducible refine spl (fun hc => ?_) (fun hc => ?_) | with_reducible refine spl' (fun hc => ?_) (fun hc => ?_)) <;> try (exfalso; omega)) | with_reducible refine imp_intro (fun hc => ?_) | refine vcq (k := ?_) | refine dr 8 (k := ?_) | refine dr 16 (k := ?_)))); all_goals (try conv => whnf); all_goals (try with_reducible exact trivial); (repeat' ((first | (refine callee_fo (has54 (l.getD ((i : Int).toNat) (0, 0, 0))) rfl ?_; rintro _ rfl) | (refine pcall_intro (has54 (l.getD ((i : Int).toNat) (0, 0, 0))) rfl ?_) | (refine pcall_soft (fun _ => has54 (l.getD ((i : Int).toNat) (0, 0, 0))) rfl ?_)); (repeat' ((conv => whnf); (first | ((first | with_reducible refine spl (fun hc => ?_) (fun hc => ?_) | with_reducible refine spl' (fun hc => ?_) (fun hc => ?_)) <;> try (exfalso; omega)) | with_reducible refine imp_intro (fun hc => ?_) | refine vcq (k := ?_) | refine dr 8 (k := ?_) | refine dr 16 (k := ?_)))); all_goals (try conv => whnf); all_goals (try with_reducible exact trivial))); (all_goals (try (refine ⟨_, rfl, ?_⟩; (repeat' ((conv => whnf); (first | ((first | with_reducible refine spl (fun hc => ?_) (fun hc => ?_) | with_reducible refine spl' (fun hc => ?_) (fun hc => ?_)) <;> try (exfalso; omega)) | with_reducible refine imp_intro (fun hc => ?_) | refine vcq (k := ?_) | refine dr 8 (k := ?_) | refine dr 16 (k := ?_)))); all_goals (try conv => whnf); all_goals (try with_reducible exact trivial))))
    · rename_i hlt
      rw [hti] at hc
      refine ⟨_, ⟨i, h1, h2, fun _ => ?_, rfl⟩, ?_⟩
      · simpa [Job.has] using hc
      · rw [if_pos (by omega)]
        (repeat' ((conv => whnf); (first | ((first | with_reducible refine spl (fun hc => ?_) (fun hc => ?_) | with_reducible refine spl' (fun hc => ?_) (fun hc => ?_)) <;> try (exfalso; omega)) | with_reducible refine imp_intro (fun hc => ?_) | refine vcq (k := ?_) | refine dr 8 (k := ?_) | refine dr 16 (k := ?_)))); all_goals (try conv => whnf); all_goals (try with_reducible exact trivial)
    · rename_i hlt
      rw [hti] at hc
      refine ⟨i + 1, ⟨⟨by omega, fun k hk => ?_⟩, by dsimp only; omega⟩, none, ?_⟩
      · rcases Nat.lt_or_eq_of_le (show k ≤ i by omega) with h | rfl
        · exact h2 k h
        · simpa [Job.has] using hc
      · (repeat' ((conv => whnf); (first | ((first | with_reducible refine spl (fun hc => ?_) (fun hc => ?_) | with_reducible refine spl' (fun hc => ?_) (fun hc => ?_)) <;> try (exfalso; omega)) | with_reducible refine imp_intro (fun hc => ?_) | refine vcq (k := ?_) | refine dr 8 (k := ?_) | refine dr 16 (k := ?_)))); all_goals (try conv => whnf); all_goals (try with_reducible exact trivial)
    · refine ⟨_, ⟨i, h1, h2, fun h => by omega, rfl⟩, ?_⟩
      rw [if_neg (by omega)]
      (repeat' ((conv => whnf); (first | ((first | with_reducible refine spl (fun hc => ?_) (fun hc => ?_) | with_reducible refine spl' (fun hc => ?_) (fun hc => ?_)) <;> try (exfalso; omega)) | with_reducible refine imp_intro (fun hc => ?_) | refine vcq (k := ?_) | refine dr 8 (k := ?_) | refine dr 16 (k := ?_)))); all_goals (try conv => whnf); all_goals (try with_reducible exact trivial)

theorem filter_all_take {l : List Job} {i : Nat} (h : ∀ k, k < i → (l.getD k (0, 0, 0)).has = true) (hi : i ≤ l.length) : (l.take i).filter Job.has = l.take i := by
  rw [List.filter_eq_self]
  intro x hx
  obtain ⟨k, hk, rfl⟩ := List.getElem_of_mem hx
  rw [List.length_take] at hk
  have := h k (by omega)
  rw [List.getD_eq_getElem?_getD, List.getElem?_eq_getElem (by omega)] at this
  rw [List.getElem_take]
  exact this

theorem filter_take_succ {l : List Job} {i : Nat} (h : i < l.length) : (l.take (i + 1)).filter Job.has = (l.take i).filter Job.has ++ (if (l.getD i (0, 0, 0)).has then [l.getD i (0, 0, 0)] else []) := by
  rw [take_succ_getD (0, 0, 0) h, List.filter_append]
  congr 1
  cases hh : (l.getD i (0, 0, 0)).has
  · rw [List.filter_cons_of_neg (by rw [hh]; simp)]; simp
  · rw [List.filter_cons_of_pos hh]; simp

theorem getD_take {α : Type} {l : List α} {d : α} {i k : Nat} (h : k < i) : (l.take i).getD k d = l.getD k d := by
  simp [List.getD_eq_getElem?_getD, h]

theorem getD_snoc {α : Type} {l : List α} {d x : α} {k : Nat} (h : k ≤ l.length) : (l ++ [x]).getD k d = if k = l.length then x else l.getD k d := by
  by_cases hk : k = l.length
  · subst hk; simp
  · rw [if_neg hk]
    simp [List.getD_eq_getElem?_getD, List.getElem?_append_left (show k < l.length by omega)]

theorem delete53 (l : List Job) (hl : l.length ≤ 100) : Sx.Callee Try.prog 53 [.osl 0 l.length, .fn (.func 54) [] []] [.row 75 3 l.length (rowOf jobC (0, 0, 0) l) false]
    (fun r H => r = .sl 3 (l.filter Job.has).length (rowOf jobC (0, 0, 0) (l.filter Job.has)) ∧ H = [.gone]) := by
  refine callee_ent Try.E_ok Try.func53 rfl (by kernel_rfl) ?_
  (repeat' ((conv => whnf); (first | ((first | with_reducible refine spl (fun hc => ?_) (fun hc => ?_) | with_reducible refine spl' (fun hc => ?_) (fun hc => ?_)) <;> try (exfalso; omega)) | with_reducible refine imp_intro (fun hc => ?_) | refine vcq (k := ?_) | refine dr 8 (k := ?_) | refine dr 16 (k := ?_)))); all_goals (try conv => whnf); all_goals (try with_reducible exact trivial)
  refine callee_view (index69 l hl) ?_
  (repeat' ((conv => whnf); (first | ((first | with_reducible refine spl (fun hc => ?_) (fun hc => ?_) | with_reducible refine spl' (fun hc => ?_) (fun hc => ?_)) <;> try (exfalso; omega)) | with_reducible refine imp_intro (fun hc => ?_) | refine vcq (k := ?_) | refine dr 8 (k := ?_) | refine dr 16 (k := ?_)))); all_goals (try conv => whnf); all_goals (try with_reducible exact trivial)
  rintro _ ⟨i0, h1, h2, h3, rfl⟩
  by_cases hi : i0 < l.length
  · rw [if_pos hi]
    have hk0 : (l.take (i0 + 1)).filter Job.has = l.take i0 := by
      rw [filter_take_succ hi, filter_all_take h2 h1, h3 hi]; simp
    (repeat' ((conv => whnf); (first | ((first | with_reducible refine spl (fun hc => ?_) (fun hc => ?_) | with_reducible refine spl' (fun hc => ?_) (fun hc => ?_)) <;> try (exfalso; omega)) | with_reducible refine imp_intro (fun hc => ?_) | refine vcq (k := ?_) | refine dr 8 (k := ?_) | refine dr 16 (k := ?_)))); all_goals (try conv => whnf); all_goals (try with_reducible exact trivial)
    refine ⟨Nat × (Nat → Job), fun q => q.1 ≤ l.length ∧ i0 < q.1 ∧ ((l.take q.1).filter Job.has).length < q.1 ∧ (∀ k, k < ((l.take q.1).filter Job.has).length → q.2 k = ((l.take q.1).filter Job.has).getD k (0, 0, 0)) ∧ ∀ k, q.1 ≤ k → q.2 k = l.getD k (0, 0, 0), fun q => l.length - q.1,
      fun q => [(5, .int .i64 ((l.take q.1).filter Job.has).length), (6, .int .i64 q.1)], fun q => [(0, .row 75 3 l.length (fun k => jobC (q.2 k)) false)], fun _ => [], (i0 + 1, fun k => l.getD k (0, 0, 0)), ⟨⟨by dsimp only; omega, by dsimp only; omega, by dsimp only; rw [hk0, List.length_take]; omega, fun k hk => by dsimp only at hk ⊢; rw [hk0] at hk ⊢; rw [List.length_take] at hk; rw [getD_take (by omega)], fun k _ => rfl⟩, some [some 0], ?_⟩, ?_⟩
    · dsimp only
      rw [hk0, List.length_take, Nat.min_eq_left h1]
      (repeat' ((conv => whnf); (first | ((first | with_reducible refine spl (fun hc => ?_) (fun hc => ?_) | with_reducible refine spl' (fun hc => ?_) (fun hc => ?_)) <;> try (exfalso; omega)) | with_reducible refine imp_intro (fun hc => ?_) | refine vcq (k := ?_) | refine dr 8 (k := ?_) | refine dr 16 (k := ?_)))); all_goals (try conv => whnf); all_goals (try with_reducible exact trivial)
    · rintro ⟨j, a⟩ ⟨g1, g2, g3, g4, g5⟩
      dsimp only at g1 g2 g3 g4 g5
      by_cases hj : j < l.length
      · have e1 : a ((j : Int).toNat) = l.getD j (0, 0, 0) := by rw [Int.toNat_natCast]; exact g5 j (Nat.le_refl _)
        have hfs := filter_take_succ hj
        generalize l.getD j (0, 0, 0) = x at *
        generalize hm : ((l.take j).filter Job.has).length = m at *
        have e2 : (m : Int).toNat = m := Int.toNat_natCast m
        (repeat' ((conv => whnf); (first | ((first | with_reducible refine spl (fun hc => ?_) (fun hc => ?_) | with_reducible refine spl' (fun hc => ?_) (fun hc => ?_)) <;> try (exfalso; omega)) | with_reducible refine imp_intro (fun hc => ?_) | refine vcq (k := ?_) | refine dr 8 (k := ?_) | refine dr 16 (k := ?_)))); all_goals (try conv => whnf); all_goals (try with_reducible exact trivial); (repeat' ((first | (refine callee_fo (has54 (a ((j : Int).toNat))) rfl ?_; rintro _ rfl) | (refine pcall_intro (has54 (a ((j : Int).toNat))) rfl ?_) | (refine pcall_soft (fun _ => has54 (a ((j : Int).toNat))) rfl ?_)); (repeat' ((conv => whnf); (first | ((first | with_reducible refine spl (fun hc => ?_) (fun hc => ?_) | with_reducible refine spl' (fun hc => ?_) (fun hc => ?_)) <;> try (exfalso; omega)) | with_reducible refine imp_intro (fun hc => ?_) | refine vcq (k := ?_) | refine dr 8 (k := ?_) | refine dr 16 (k := ?_)))); all_goals (try conv => whnf); all_goals (try with_reducible exact trivial))); (all_goals (try (refine ⟨_, rfl, ?_⟩; (repeat' ((conv => whnf); (first | ((first | with_reducible refine spl (fun hc => ?_) (fun hc => ?_) | with_reducible refine spl' (fun hc => ?_) (fun hc => ?_)) <;> try (exfalso; omega)) | with_reducible refine imp_intro (fun hc => ?_) | refine vcq (k := ?_) | refine dr 8 (k := ?_) | refine dr 16 (k := ?_)))); all_goals (try conv => whnf); all_goals (try with_reducible exact trivial))))
        · rw [e1] at hc
          rw [show x.has = true by simpa [Job.has] using hc] at hfs
          simp only [if_true] at hfs
          have hlen : ((l.take (j + 1)).filter Job.has).length = m + 1 := by rw [hfs]; simp [hm]
          refine ⟨(j + 1, fun k => if k = m then x else a k), ⟨⟨by dsimp only; omega, by dsimp only; omega, by dsimp only; omega, fun k hk => ?_, fun k hk => ?_⟩, by dsimp only; omega⟩, some [some 0], ?_⟩
          · dsimp only at hk ⊢
            rw [hlen] at hk
            rw [hfs, getD_snoc (by omega), hm]
            split
            · rfl
            · exact g4 k (by omega)
          · dsimp only at hk ⊢
            rw [if_neg (by omega)]
            exact g5 k (by omega)
          · dsimp only
            rw [hlen]
            (repeat' ((conv => whnf); (first | ((first | with_reducible refine spl (fun hc => ?_) (fun hc => ?_) | with_reducible refine spl' (fun hc => ?_) (fun hc => ?_)) <;> try (exfalso; omega)) | with_reducible refine imp_intro (fun hc => ?_) | refine vcq (k := ?_) | refine dr 8 (k := ?_) | refine dr 16 (k := ?_)))); all_goals (try conv => whnf); all_goals (try with_reducible exact trivial)
            refine ⟨fun k _ => ?_, ?_⟩
            · dsimp only
              rw [hm, e2]
              by_cases hk : k = m
              · rw [spliceP_pos (p := k = m) hk, if_pos hk, e1]; rfl
              · rw [spliceP_neg hk, if_neg hk]
            · (repeat' ((conv => whnf); (first | ((first | with_reducible refine spl (fun hc => ?_) (fun hc => ?_) | with_reducible refine spl' (fun hc => ?_) (fun hc => ?_)) <;> try (exfalso; omega)) | with_reducible refine imp_intro (fun hc => ?_) | refine vcq (k := ?_) | refine dr 8 (k := ?_) | refine dr 16 (k := ?_)))); all_goals (try conv => whnf); all_goals (try with_reducible exact trivial)
        · rw [e1] at hc
          rw [show x.has = false by simpa [Job.has] using hc] at hfs
          simp only [Bool.false_eq_true, if_false, List.append_nil] at hfs
          refine ⟨(j + 1, a), ⟨⟨by dsimp only; omega, by dsimp only; omega, by dsimp only; rw [hfs]; omega, fun k hk => ?_, fun k hk => ?_⟩, by dsimp only; omega⟩, some [some 0], ?_⟩
          · dsimp only at hk ⊢
            rw [hfs] at hk ⊢
            exact g4 k (by omega)
          · exact g5 k (by dsimp only at hk; omega)
          · dsimp only
            rw [hfs, hm]
            (repeat' ((conv => whnf); (first | ((first | with_reducible refine spl (fun hc => ?_) (fun hc => ?_) | with_reducible refine spl' (fun hc => ?_) (fun hc => ?_)) <;> try (exfalso; omega)) | with_reducible refine imp_intro (fun hc => ?_) | refine vcq (k := ?_) | refine dr 8 (k := ?_) | refine dr 16 (k := ?_)))); all_goals (try conv => whnf); all_goals (try with_reducible exact trivial)
      · obtain rfl : j = l.length := by omega
        rw [List.take_length] at g3 g4
        dsimp only
        rw [List.take_length]
        generalize hm : (l.filter Job.has).length = m at *
        (repeat' ((conv => whnf); (first | ((first | with_reducible refine spl (fun hc => ?_) (fun hc => ?_) | with_reducible refine spl' (fun hc => ?_) (fun hc => ?_)) <;> try (exfalso; omega)) | with_reducible refine imp_intro (fun hc => ?_) | refine vcq (k := ?_) | refine dr 8 (k := ?_) | refine dr 16 (k := ?_)))); all_goals (try conv => whnf); all_goals (try with_reducible exact trivial)
        refine ⟨_, _, ⟨rfl, rfl⟩, some [some 0], ?_⟩
        (repeat' ((conv => whnf); (first | ((first | with_reducible refine spl (fun hc => ?_) (fun hc => ?_) | with_reducible refine spl' (fun hc => ?_) (fun hc => ?_)) <;> try (exfalso; omega)) | with_reducible refine imp_intro (fun hc => ?_) | refine vcq (k := ?_) | refine dr 8 (k := ?_) | refine dr 16 (k := ?_)))); all_goals (try conv => whnf); all_goals (try with_reducible exact trivial)
        refine ⟨fun k hk => ?_, .inl rfl, ?_⟩
        · dsimp only
          rw [if_neg (by omega), show Int.toNat 0 + k = k by simp, g4 k (by omega)]
          rfl
        · (repeat' ((conv => whnf); (first | ((first | with_reducible refine spl (fun hc => ?_) (fun hc => ?_) | with_reducible refine spl' (fun hc => ?_) (fun hc => ?_)) <;> try (exfalso; omega)) | with_reducible refine imp_intro (fun hc => ?_) | refine vcq (k := ?_) | refine dr 8 (k := ?_) | refine dr 16 (k := ?_)))); all_goals (try conv => whnf); all_goals (try with_reducible exact trivial)
  · obtain rfl : i0 = l.length := by omega
    rw [if_neg hi]
    (repeat' ((conv => whnf); (first | ((first | with_reducible refine spl (fun hc => ?_) (fun hc => ?_) | with_reducible refine spl' (fun hc => ?_) (fun hc => ?_)) <;> try (exfalso; omega)) | with_reducible refine imp_intro (fun hc => ?_) | refine vcq (k := ?_) | refine dr 8 (k := ?_) | refine dr 16 (k := ?_)))); all_goals (try conv => whnf); all_goals (try with_reducible exact trivial)
    have hk0 : l.filter Job.has = l := by
      have := filter_all_take h2 h1
      rwa [List.take_length] at this
    rw [hk0]
    refine ⟨_, _, ⟨rfl, rfl⟩, some [some 0], ?_⟩
    (repeat' ((conv => whnf); (first | ((first | with_reducible refine spl (fun hc => ?_) (fun hc => ?_) | with_reducible refine spl' (fun hc => ?_) (fun hc => ?_)) <;> try (exfalso; omega)) | with_reducible refine imp_intro (fun hc => ?_) | refine vcq (k := ?_) | refine dr 8 (k := ?_) | refine dr 16 (k := ?_)))); all_goals (try conv => whnf); all_goals (try with_reducible exact trivial)
/-- the job of a band, by some of the blocks -/
def Bands.jobOf (b : Bands) (ks : List Int) (i : Nat) : Job := (if b.slots i ks = 0 then 0 else i, b.costOf ks i, b.slots i ks)
def Bands.jobs (b : Bands) (ks : List Int) : List Job := ((List.range b.B.toNat).map (b.jobOf ks)).filter Job.has

theorem lowest_perm {b : Bands} {band : Int} {l m : List Int} (h : l.Perm m) : b.lowest band l = b.lowest band m := by
  induction h with
  | nil => rfl
  | cons x _ ih => simp only [Bands.lowest, ih]
  | swap x y l =>
    simp only [Bands.lowest]
    split <;> split <;> first | rfl | omega
  | trans _ _ ih1 ih2 => exact ih1.trans ih2

theorem slots_perm {b : Bands} {band : Int} {l m : List Int} (h : l.Perm m) : b.slots band l = b.slots band m := by
  induction h with
  | nil => rfl
  | cons x _ ih => simp only [Bands.slots, ih]
  | swap x y l =>
    simp only [Bands.slots]
    split <;> split <;> first | rfl | omega
  | trans _ _ ih1 ih2 => exact ih1.trans ih2

theorem jobOf_perm {b : Bands} {l m : List Int} (h : l.Perm m) (i : Nat) : b.jobOf l i = b.jobOf m i := by
  unfold Bands.jobOf Bands.costOf
  rw [lowest_perm h, slots_perm h]

theorem jobOf_cons {b : Bands} {x : Int} {ks : List Int} {i : Nat} : b.jobOf (x :: ks) i = if b.bd x = i then ((i : Int), max (b.jobOf ks i).2.1 (b.T - b.tr x), (b.jobOf ks i).2.2 + 1) else b.jobOf ks i := by
  unfold Bands.jobOf Bands.costOf
  simp only [Bands.lowest, Bands.slots]
  have := (slots_nonneg (b := b) i ks).1
  split
  · rw [if_neg (by omega)]
    congr 2
    omega
  · rfl

theorem jobOf_small {b : Bands} (hb : b.Ok) {ks : List Int} (h : ks.length ≤ 12) {i : Nat} (hi : i ≤ 6) : (b.jobOf ks i).Small := by
  have h1 := slots_nonneg (b := b) i ks
  have h2 := lowest_le hb i ks
  have hT := hb.T
  unfold Bands.jobOf Bands.costOf
  refine ⟨?_, ?_, ?_⟩
  · dsimp only; split <;> omega
  · dsimp only; omega
  · dsimp only; omega

theorem jobs40 (b : Bands) (hb : b.Ok) (s : St) (hs : s.Ok b) (g : MG) : Sx.Callee Try.prog 40 [.ptr 0 0] (s.heap b g) (fun r H => H = s.heap b g ∧ r = .sl 3 (b.jobs s.keys).length (rowOf jobC (0, 0, 0) (b.jobs s.keys))) := by
  have hB := hb.B
  have hT := hb.T
  have hC := hb.C
  have hkl : s.keys.length ≤ 12 := by have := hs.len; unfold St.keys; rw [List.length_map]; omega
  refine callee_ent Try.E_ok Try.func40 rfl (by kernel_rfl) ?_
  (repeat' ((conv => whnf); (first | ((first | with_reducible refine spl (fun hc => ?_) (fun hc => ?_) | with_reducible refine spl' (fun hc => ?_) (fun hc => ?_)) <;> try (exfalso; omega)) | with_reducible refine imp_intro (fun hc => ?_) | refine vcq (k := ?_) | refine dr 8 (k := ?_) | refine dr 16 (k := ?_)))); all_goals (try conv => whnf); all_goals (try with_reducible exact trivial)
  refine ⟨List Int, fun ks => ks.Nodup ∧ ∀ n ∈ ks, n ∈ s.keys, fun ks => s.keys.length - ks.length, fun _ => [], fun ks => [(4, .row 75 3 b.B.toNat (fun i => jobC (b.jobOf ks i)) false), (5, .iter 3 g (fun k => domOf s.cch k ∧ k.length = [IntKind.i64].length) (ks.map fun n => [n]))], fun _ => [], [], ⟨⟨List.nodup_nil, by simp⟩, some [some 0, some 1, some 2, some 3, some 4, some 5], ?_⟩, ?_⟩
  · (repeat' ((conv => whnf); (first | ((first | with_reducible refine spl (fun hc => ?_) (fun hc => ?_) | with_reducible refine spl' (fun hc => ?_) (fun hc => ?_)) <;> try (exfalso; omega)) | with_reducible refine imp_intro (fun hc => ?_) | refine vcq (k := ?_) | refine dr 8 (k := ?_) | refine dr 16 (k := ?_)))); all_goals (try conv => whnf); all_goals (try with_reducible exact trivial)
    refine ⟨fun i _ => by simp [Bands.jobOf, Bands.costOf, Bands.slots, Bands.lowest, jobC], ?_⟩
    (repeat' ((conv => whnf); (first | ((first | with_reducible refine spl (fun hc => ?_) (fun hc => ?_) | with_reducible refine spl' (fun hc => ?_) (fun hc => ?_)) <;> try (exfalso; omega)) | with_reducible refine imp_intro (fun hc => ?_) | refine vcq (k := ?_) | refine dr 8 (k := ?_) | refine dr 16 (k := ?_)))); all_goals (try conv => whnf); all_goals (try with_reducible exact trivial)
  · rintro ks ⟨h1, h2⟩
    have hksl : ks.length ≤ s.keys.length := nodup_length_le h1 h2
    (repeat' ((conv => whnf); (first | ((first | with_reducible refine spl (fun hc => ?_) (fun hc => ?_) | with_reducible refine spl' (fun hc => ?_) (fun hc => ?_)) <;> try (exfalso; omega)) | with_reducible refine imp_intro (fun hc => ?_) | refine vcq (k := ?_) | refine dr 8 (k := ?_) | refine dr 16 (k := ?_)))); all_goals (try conv => whnf); all_goals (try with_reducible exact trivial)
    refine ⟨fun k hk hd => ⟨hd, hk⟩, ?_, ?_⟩
    · intro x hx hnew _
      have hx : x ∈ s.keys := hx
      have hnk : x ∉ ks := fun h => hnew (List.mem_map.2 ⟨x, h, rfl⟩)
      have hxN : 0 ≤ x ∧ x < b.N := by
        obtain ⟨y, hy, rfl⟩ := List.mem_map.1 hx
        exact hs.blk y hy
      have hNb := N_bounds hb
      have hbd : 0 ≤ x / b.K / b.T ∧ x / b.K / b.T < b.B := bd_lt hb hxN
      have htr : 0 ≤ x / b.K % b.T ∧ x / b.K % b.T < b.T := ⟨Int.emod_nonneg _ (by omega), Int.emod_lt_of_pos _ (by omega)⟩
      have hsm := jobOf_small hb (ks := ks) (by omega) (i := (x / b.K / b.T).toNat) (by omega)
      obtain ⟨sm1, sm2, sm3⟩ := hsm
      have hnd : (x :: ks).Nodup := List.nodup_cons.2 ⟨hnk, h1⟩
      have hsub : ∀ n ∈ x :: ks, n ∈ s.keys := fun n hn => by
        rcases List.mem_cons.1 hn with rfl | hn
        · exact hx
        · exact h2 n hn
      have hlt := nodup_length_le hnd hsub
      simp only [List.length_cons] at hlt
      (repeat' ((conv => whnf); (first | ((first | with_reducible refine spl (fun hc => ?_) (fun hc => ?_) | with_reducible refine spl' (fun hc => ?_) (fun hc => ?_)) <;> try (exfalso; omega)) | with_reducible refine imp_intro (fun hc => ?_) | refine vcq (k := ?_) | refine dr 8 (k := ?_) | refine dr 16 (k := ?_)))); all_goals (try conv => whnf); all_goals (try with_reducible exact trivial)
      refine ⟨⟨rfl, hx, rfl⟩, ?_⟩
      (repeat' ((conv => whnf); (first | ((first | with_reducible refine spl (fun hc => ?_) (fun hc => ?_) | with_reducible refine spl' (fun hc => ?_) (fun hc => ?_)) <;> try (exfalso; omega)) | with_reducible refine imp_intro (fun hc => ?_) | refine vcq (k := ?_) | refine dr 8 (k := ?_) | refine dr 16 (k := ?_)))); all_goals (try conv => whnf); all_goals (try with_reducible exact trivial)
      refine callee_view (spot52 b hb x (by omega) (by omega)) ?_
      (repeat' ((conv => whnf); (first | ((first | with_reducible refine spl (fun hc => ?_) (fun hc => ?_) | with_reducible refine spl' (fun hc => ?_) (fun hc => ?_)) <;> try (exfalso; omega)) | with_reducible refine imp_intro (fun hc => ?_) | refine vcq (k := ?_) | refine dr 8 (k := ?_) | refine dr 16 (k := ?_)))); all_goals (try conv => whnf); all_goals (try with_reducible exact trivial)
      rintro _ rfl
      (repeat' ((conv => whnf); (first | ((first | with_reducible refine spl (fun hc => ?_) (fun hc => ?_) | with_reducible refine spl' (fun hc => ?_) (fun hc => ?_)) <;> try (exfalso; omega)) | with_reducible refine imp_intro (fun hc => ?_) | refine vcq (k := ?_) | refine dr 8 (k := ?_) | refine dr 16 (k := ?_)))); all_goals (try conv => whnf); all_goals (try with_reducible exact trivial)
      refine ⟨x :: ks, ⟨⟨hnd, hsub⟩, by simp only [List.length_cons]; omega⟩, some [some 0, some 1, some 2, some 3, some 4, some 5], ?_⟩
      (repeat' ((conv => whnf); (first | ((first | with_reducible refine spl (fun hc => ?_) (fun hc => ?_) | with_reducible refine spl' (fun hc => ?_) (fun hc => ?_)) <;> try (exfalso; omega)) | with_reducible refine imp_intro (fun hc => ?_) | refine vcq (k := ?_) | refine dr 8 (k := ?_) | refine dr 16 (k := ?_)))); all_goals (try conv => whnf); all_goals (try with_reducible exact trivial)
      refine ⟨fun i hi => ?_, ?_⟩
      · dsimp only
        rw [jobOf_cons]
        by_cases hik : i = (x / b.K / b.T).toNat
        · have hc : b.bd x = i := by unfold Bands.bd; omega
          rw [if_pos hc]
          subst hik
          rw [spliceP_pos (p := (x / b.K / b.T).toNat = (x / b.K / b.T).toNat) rfl, spliceP_pos (p := (x / b.K / b.T).toNat = (x / b.K / b.T).toNat) rfl, spliceP_pos (p := (x / b.K / b.T).toNat = (x / b.K / b.T).toNat) rfl]
          simp only [jobC, splice, Sx.set]
          rw [show ((x / b.K / b.T).toNat : Int) = x / b.K / b.T by omega]
          rfl
        · have hc : ¬ b.bd x = i := by unfold Bands.bd; omega
          rw [if_neg hc, spliceP_neg hik, spliceP_neg hik, spliceP_neg hik]
      · (repeat' ((conv => whnf); (first | ((first | with_reducible refine spl (fun hc => ?_) (fun hc => ?_) | with_reducible refine spl' (fun hc => ?_) (fun hc => ?_)) <;> try (exfalso; omega)) | with_reducible refine imp_intro (fun hc => ?_) | refine vcq (k := ?_) | refine dr 8 (k := ?_) | refine dr 16 (k := ?_)))); all_goals (try conv => whnf); all_goals (try with_reducible exact trivial)
    · intro hall
      have hperm : ks.Perm s.keys := (List.perm_ext_iff_of_nodup h1 hs.asc.keys_nodup).2 fun n => ⟨h2 n, fun hn => by
        obtain ⟨m, hm, he⟩ := List.mem_map.1 (hall n hn)
        simp only [List.cons.injEq, and_true] at he
        rwa [← he]⟩
      (repeat' ((conv => whnf); (first | ((first | with_reducible refine spl (fun hc => ?_) (fun hc => ?_) | with_reducible refine spl' (fun hc => ?_) (fun hc => ?_)) <;> try (exfalso; omega)) | with_reducible refine imp_intro (fun hc => ?_) | refine vcq (k := ?_) | refine dr 8 (k := ?_) | refine dr 16 (k := ?_)))); all_goals (try conv => whnf); all_goals (try with_reducible exact trivial)
      have hlen : ((List.range b.B.toNat).map (b.jobOf s.keys)).length = b.B.toNat := by simp
      refine callee_frame [4] (delete53 ((List.range b.B.toNat).map (b.jobOf s.keys)) (by rw [hlen]; omega)) rfl ?_ ?_
      · rw [hlen]
        (repeat' ((conv => whnf); (first | ((first | with_reducible refine spl (fun hc => ?_) (fun hc => ?_) | with_reducible refine spl' (fun hc => ?_) (fun hc => ?_)) <;> try (exfalso; omega)) | with_reducible refine imp_intro (fun hc => ?_) | refine vcq (k := ?_) | refine dr 8 (k := ?_) | refine dr 16 (k := ?_)))); all_goals (try conv => whnf); all_goals (try with_reducible exact trivial)
        refine ⟨fun i hi => ?_, ?_⟩
        · unfold rowOf
          simp [List.getD_eq_getElem?_getD, List.getElem?_map, List.getElem?_range hi, jobOf_perm hperm]
        · (repeat' ((conv => whnf); (first | ((first | with_reducible refine spl (fun hc => ?_) (fun hc => ?_) | with_reducible refine spl' (fun hc => ?_) (fun hc => ?_)) <;> try (exfalso; omega)) | with_reducible refine imp_intro (fun hc => ?_) | refine vcq (k := ?_) | refine dr 8 (k := ?_) | refine dr 16 (k := ?_)))); all_goals (try conv => whnf); all_goals (try with_reducible exact trivial)
      · rintro _ _ ⟨rfl, rfl⟩
        (repeat' ((conv => whnf); (first | ((first | with_reducible refine spl (fun hc => ?_) (fun hc => ?_) | with_reducible refine spl' (fun hc => ?_) (fun hc => ?_)) <;> try (exfalso; omega)) | with_reducible refine imp_intro (fun hc => ?_) | refine vcq (k := ?_) | refine dr 8 (k := ?_) | refine dr 16 (k := ?_)))); all_goals (try conv => whnf); all_goals (try with_reducible exact trivial)
        refine ⟨_, _, ⟨rfl, rfl⟩, some [some 0, some 1, some 2, some 3], ?_⟩
        (repeat' ((conv => whnf); (first | ((first | with_reducible refine spl (fun hc => ?_) (fun hc => ?_) | with_reducible refine spl' (fun hc => ?_) (fun hc => ?_)) <;> try (exfalso; omega)) | with_reducible refine imp_intro (fun hc => ?_) | refine vcq (k := ?_) | refine dr 8 (k := ?_) | refine dr 16 (k := ?_)))); all_goals (try conv => whnf); all_goals (try with_reducible exact trivial)
end Go.Proofs


namespace Go.Proofs
open Go Go.Sx
set_option maxRecDepth 100000
set_option maxHeartbeats 4000000
-- SxAid2

/-- the cleaning of a band, so far -/
def St.part (b : Bands) (s : St) (band : Int) (ks : List Int) : St where
  med := fun i => if (i : Int) ∈ ks ∧ b.bd i = band then look s.cch i else s.med i
  cch := s.cch.filter (fun x => !(ks.contains x.1 && b.bd x.1 == band))
  cnt := s.cnt
  cost := s.cost
  cleaned := s.cleaned
  refreshed := s.refreshed

theorem mem_part {b : Bands} {s : St} {band : Int} {ks : List Int} {n : Int} : n ∈ (s.part b band ks).cch.map Prod.fst ↔ n ∈ s.keys ∧ ¬ (n ∈ ks ∧ b.bd n = band) := by
  simp only [St.part, St.keys, List.mem_map, List.mem_filter]
  constructor
  · rintro ⟨x, ⟨h1, h2⟩, rfl⟩
    refine ⟨⟨x, h1, rfl⟩, fun h => ?_⟩
    simp [h.1, h.2] at h2
  · rintro ⟨⟨x, h1, rfl⟩, h⟩
    refine ⟨x, ⟨h1, ?_⟩, rfl⟩
    simp only [Bool.not_eq_true', Bool.and_eq_false_iff, List.contains_eq_mem, decide_eq_false_iff_not, beq_eq_false_iff_ne, ne_eq]
    by_cases hx : x.1 ∈ ks
    · exact .inr fun h2 => h ⟨hx, h2⟩
    · exact .inl hx

theorem look_filter {p : Int → Bool} {n : Int} (hp : p n = true) : ∀ (l : List (Int × Int)), look (l.filter (fun x => p x.1)) n = look l n
  | [] => rfl
  | x :: l => by
    have ih := look_filter hp l
    unfold look at ih ⊢
    by_cases hx : x.1 = n
    · subst hx
      rw [List.filter_cons_of_pos (by exact hp)]
      simp
    · have e1 : (x.1 == n) = false := by simpa using hx
      by_cases hpx : p x.1 = true
      · rw [List.filter_cons_of_pos (by exact hpx)]
        simp only [List.find?_cons, e1]
        exact ih
      · rw [List.filter_cons_of_neg (by exact hpx)]
        simp only [List.find?_cons, e1]
        exact ih

theorem look_part {b : Bands} {s : St} {band : Int} {ks : List Int} {n : Int} (h : ¬ (n ∈ ks ∧ b.bd n = band)) : look (s.part b band ks).cch n = look s.cch n := by
  unfold St.part
  refine look_filter (p := fun m => !(ks.contains m && b.bd m == band)) ?_ s.cch
  by_cases hx : n ∈ ks
  · have : ¬ b.bd n = band := fun h2 => h ⟨hx, h2⟩
    simp [hx, this]
  · simp [hx]

theorem part_length {b : Bands} {s : St} {band : Int} {ks : List Int} {n : Int} (ha : Asc s.cch) (hn : n ∈ s.keys) (hk : n ∉ ks) (hb : b.bd n = band) : (s.part b band ks).cch.length = (s.part b band (n :: ks)).cch.length + 1 := by
  unfold St.part St.keys at *
  dsimp only
  generalize s.cch = l at *
  induction l with
  | nil => simp at hn
  | cons x l ih =>
    have h1 := List.pairwise_cons.1 ha
    by_cases hx : x.1 = n
    · have e1 : (!(ks.contains x.1 && b.bd x.1 == band)) = true := by rw [hx]; simp [hk]
      have e2 : (!((n :: ks).contains x.1 && b.bd x.1 == band)) = false := by rw [hx]; simp [hb]
      rw [List.filter_cons_of_pos (by exact e1), List.filter_cons_of_neg (by rw [e2]; simp)]
      simp only [List.length_cons, Nat.add_right_cancel_iff]
      congr 1
      apply List.filter_congr
      intro y hy
      have : y.1 ≠ n := by have := h1.1 y hy; omega
      simp [this]
    · have hn' : n ∈ l.map Prod.fst := by
        rcases List.mem_cons.1 hn with h | h
        · exact absurd h.symm hx
        · exact h
      have := ih h1.2 hn'
      have e : (!((n :: ks).contains x.1 && b.bd x.1 == band)) = (!(ks.contains x.1 && b.bd x.1 == band)) := by simp [hx]
      by_cases hp : (!(ks.contains x.1 && b.bd x.1 == band)) = true
      · rw [List.filter_cons_of_pos (by exact hp), List.filter_cons_of_pos (by exact e.trans hp)]
        simp only [List.length_cons]
        omega
      · rw [List.filter_cons_of_neg (by exact hp), List.filter_cons_of_neg (by rw [e]; exact hp)]
        exact this

theorem part_cons_other {b : Bands} {s : St} {band : Int} {ks : List Int} {n : Int} (hb : b.bd n ≠ band) : s.part b band (n :: ks) = s.part b band ks := by
  unfold St.part
  congr 1
  · funext i
    have : ((i : Int) ∈ n :: ks ∧ b.bd i = band) ↔ ((i : Int) ∈ ks ∧ b.bd i = band) := by
      constructor
      · rintro ⟨h1, h2⟩
        rcases List.mem_cons.1 h1 with rfl | h1
        · exact absurd h2 hb
        · exact ⟨h1, h2⟩
      · rintro ⟨h1, h2⟩
        exact ⟨List.mem_cons_of_mem _ h1, h2⟩
    by_cases h : (i : Int) ∈ ks ∧ b.bd i = band
    · rw [if_pos h, if_pos (this.2 h)]
    · rw [if_neg h, if_neg (fun h2 => h (this.1 h2))]
  · apply List.filter_congr
    intro x hx
    by_cases hxn : x.1 = n
    · have : (b.bd x.1 == band) = false := by rw [hxn]; simpa using hb
      simp [this]
    · simp [hxn]

theorem delete55 (b : Bands) (hb : b.Ok) (s : St) (hs : s.Ok b) (g : MG) (j : Job) : Sx.Callee Try.prog 55 [.map 3, .fn (.func 56) [] [.ptr 4 0, .ptr 5 0]] [s.o0 b, s.o1 b, s.o2 b, s.o3 g, .cells 65 [.ptr 0 0], .cells 75 [.int .i64 j.1, .int .i64 j.2.1, .int .i64 j.2.2]]
    (fun r H => r = .tup [] ∧ H = [(s.part b j.1 s.keys).o0 b, (s.part b j.1 s.keys).o1 b, (s.part b j.1 s.keys).o2 b, (s.part b j.1 s.keys).o3 g, .cells 65 [.ptr 0 0], .cells 75 [.int .i64 j.1, .int .i64 j.2.1, .int .i64 j.2.2]]) := by
  have hB := hb.B
  have hT := hb.T
  have hNb := N_bounds hb
  refine callee_ent Try.E_ok Try.func55 rfl (by kernel_rfl) ?_
  (repeat' ((conv => whnf); (first | ((first | with_reducible refine spl (fun hc => ?_) (fun hc => ?_) | with_reducible refine spl' (fun hc => ?_) (fun hc => ?_)) <;> try (exfalso; omega)) | with_reducible refine imp_intro (fun hc => ?_) | refine vcq (k := ?_) | refine dr 8 (k := ?_)))); all_goals (try conv => whnf); all_goals (try with_reducible exact trivial)
  refine ⟨List Int, fun ks => ks.Nodup ∧ ∀ n ∈ ks, n ∈ s.keys, fun ks => s.keys.length - ks.length, fun _ => [], fun ks => [(0, (s.part b j.1 ks).o0 b), (1, (s.part b j.1 ks).o1 b), (2, (s.part b j.1 ks).o2 b), (3, (s.part b j.1 ks).o3 g), (6, .iter 3 g (fun k => domOf s.cch k ∧ k.length = [IntKind.i64].length) (ks.map fun n => [n]))], fun _ => [], [], ⟨⟨List.nodup_nil, by simp⟩, some [some 0, some 1, some 2, some 3, some 4, some 5, some 6], ?_⟩, ?_⟩
  · have e0 : s.part b j.1 [] = s := by
      obtain ⟨m, c, n, x, y, z⟩ := s
      simp only [St.part, List.not_mem_nil, false_and, if_false, List.contains_nil, Bool.false_and, Bool.not_false, St.mk.injEq, true_and, and_true]
      exact List.filter_eq_self.2 (fun _ _ => rfl)
    dsimp only
    rw [e0]
    (repeat' ((conv => whnf); (first | ((first | with_reducible refine spl (fun hc => ?_) (fun hc => ?_) | with_reducible refine spl' (fun hc => ?_) (fun hc => ?_)) <;> try (exfalso; omega)) | with_reducible refine imp_intro (fun hc => ?_) | refine vcq (k := ?_) | refine dr 8 (k := ?_)))); all_goals (try conv => whnf); all_goals (try with_reducible exact trivial)
  · rintro ks ⟨h1, h2⟩
    have hksl : ks.length ≤ s.keys.length := nodup_length_le h1 h2
    (repeat' ((conv => whnf); (first | ((first | with_reducible refine spl (fun hc => ?_) (fun hc => ?_) | with_reducible refine spl' (fun hc => ?_) (fun hc => ?_)) <;> try (exfalso; omega)) | with_reducible refine imp_intro (fun hc => ?_) | refine vcq (k := ?_) | refine dr 8 (k := ?_)))); all_goals (try conv => whnf); all_goals (try with_reducible exact trivial)
    refine ⟨fun k hk hd => ⟨(mem_part.1 hd).1, hk⟩, ?_, ?_⟩
    · intro x hx hnew _
      have hx0 : x ∈ s.keys := (mem_part.1 hx).1
      have hnk : x ∉ ks := fun h => hnew (List.mem_map.2 ⟨x, h, rfl⟩)
      have hxN : 0 ≤ x ∧ x < b.N := by
        obtain ⟨y, hy, rfl⟩ := List.mem_map.1 hx0
        exact hs.blk y hy
      have hnd : (x :: ks).Nodup := List.nodup_cons.2 ⟨hnk, h1⟩
      have hsub : ∀ n ∈ x :: ks, n ∈ s.keys := fun n hn => by
        rcases List.mem_cons.1 hn with rfl | hn
        · exact hx0
        · exact h2 n hn
      have hlt := nodup_length_le hnd hsub
      simp only [List.length_cons] at hlt
      (repeat' ((conv => whnf); (first | ((first | with_reducible refine spl (fun hc => ?_) (fun hc => ?_) | with_reducible refine spl' (fun hc => ?_) (fun hc => ?_)) <;> try (exfalso; omega)) | with_reducible refine imp_intro (fun hc => ?_) | refine vcq (k := ?_) | refine dr 8 (k := ?_)))); all_goals (try conv => whnf); all_goals (try with_reducible exact trivial)
      refine ⟨⟨rfl, hx, rfl⟩, ?_⟩
      (repeat' ((conv => whnf); (first | ((first | with_reducible refine spl (fun hc => ?_) (fun hc => ?_) | with_reducible refine spl' (fun hc => ?_) (fun hc => ?_)) <;> try (exfalso; omega)) | with_reducible refine imp_intro (fun hc => ?_) | refine vcq (k := ?_) | refine dr 8 (k := ?_)))); all_goals (try conv => whnf); all_goals (try with_reducible exact trivial)
      refine callee_exec Try.E_ok Try.func56 rfl (by kernel_rfl) ?_
      (repeat' ((conv => whnf); (first | ((first | with_reducible refine spl (fun hc => ?_) (fun hc => ?_) | with_reducible refine spl' (fun hc => ?_) (fun hc => ?_)) <;> try (exfalso; omega)) | with_reducible refine imp_intro (fun hc => ?_) | refine vcq (k := ?_) | refine dr 8 (k := ?_)))); all_goals (try conv => whnf); all_goals (try with_reducible exact trivial)
      refine pcall_view (spot52 b hb x (by omega) (by omega)) (by (repeat' ((conv => whnf); (first | ((first | with_reducible refine spl (fun hc => ?_) (fun hc => ?_) | with_reducible refine spl' (fun hc => ?_) (fun hc => ?_)) <;> try (exfalso; omega)) | with_reducible refine imp_intro (fun hc => ?_) | refine vcq (k := ?_) | refine dr 8 (k := ?_)))); all_goals (try conv => whnf); all_goals (try with_reducible exact trivial)) ?_
      (repeat' ((conv => whnf); (first | ((first | with_reducible refine spl (fun hc => ?_) (fun hc => ?_) | with_reducible refine spl' (fun hc => ?_) (fun hc => ?_)) <;> try (exfalso; omega)) | with_reducible refine imp_intro (fun hc => ?_) | refine vcq (k := ?_) | refine dr 8 (k := ?_)))); all_goals (try conv => whnf); all_goals (try with_reducible exact trivial)
      · have hbx : b.bd x = j.1 := hc
        refine ⟨x :: ks, ⟨⟨hnd, hsub⟩, by simp only [List.length_cons]; omega⟩, some [some 0, some 1, some 2, some 3, some 4, some 5, some 6], ?_⟩
        (repeat' ((conv => whnf); (first | ((first | with_reducible refine spl (fun hc => ?_) (fun hc => ?_) | with_reducible refine spl' (fun hc => ?_) (fun hc => ?_)) <;> try (exfalso; omega)) | with_reducible refine imp_intro (fun hc => ?_) | refine vcq (k := ?_) | refine dr 8 (k := ?_)))); all_goals (try conv => whnf); all_goals (try with_reducible exact trivial)
        refine ⟨fun i _ => ?_, ?_⟩
        · dsimp only [List.headD_cons]
          rw [look_part (fun h => hnk h.1)]
          by_cases hi : i = x.toNat
          · rw [spliceP_pos hi]
            have hix : (i : Int) = x := by omega
            simp only [St.part, hix]
            rw [if_pos (show x ∈ x :: ks ∧ b.bd x = j.1 from ⟨List.mem_cons_self, hbx⟩)]
            rfl
          · rw [spliceP_neg hi]
            have hix : (i : Int) ≠ x := by omega
            simp only [St.part, List.mem_cons, hix, false_or]
        · (repeat' ((conv => whnf); (first | ((first | with_reducible refine spl (fun hc => ?_) (fun hc => ?_) | with_reducible refine spl' (fun hc => ?_) (fun hc => ?_)) <;> try (exfalso; omega)) | with_reducible refine imp_intro (fun hc => ?_) | refine vcq (k := ?_) | refine dr 8 (k := ?_)))); all_goals (try conv => whnf); all_goals (try with_reducible exact trivial)
          refine ⟨?_, ?_⟩
          · unfold nDel
            rw [if_pos hx, part_length hs.asc hx0 hnk hbx]
            simp
          · (repeat' ((conv => whnf); (first | ((first | with_reducible refine spl (fun hc => ?_) (fun hc => ?_) | with_reducible refine spl' (fun hc => ?_) (fun hc => ?_)) <;> try (exfalso; omega)) | with_reducible refine imp_intro (fun hc => ?_) | refine vcq (k := ?_) | refine dr 8 (k := ?_)))); all_goals (try conv => whnf); all_goals (try with_reducible exact trivial)
            refine ⟨fun y => ⟨?_, fun hy => ?_⟩, ?_⟩
            · unfold domDel domOf
              simp only [List.headD_cons, mem_part, ne_eq, List.cons.injEq, and_true]
              constructor
              · rintro ⟨⟨k1, k2⟩, k3⟩
                exact ⟨k1, fun h => by
                  rcases List.mem_cons.1 h.1 with rfl | h1
                  · exact k3 rfl
                  · exact k2 ⟨h1, h.2⟩⟩
              · rintro ⟨k1, k2⟩
                exact ⟨⟨k1, fun h => k2 ⟨List.mem_cons_of_mem _ h.1, h.2⟩⟩, fun h => k2 ⟨by rw [h]; simp, by rw [h]; exact hbx⟩⟩
            · have hy1 := (mem_part.1 hy.1).2
              have hne : y ≠ x := fun h => hy.2 (by rw [h])
              simp only [valOf, List.headD_cons] at hy1 ⊢
              rw [look_part hy1, look_part (fun h => by
                rcases List.mem_cons.1 h.1 with h1 | h1
                · exact hne h1
                · exact hy1 ⟨h1, h.2⟩)]
            · (repeat' ((conv => whnf); (first | ((first | with_reducible refine spl (fun hc => ?_) (fun hc => ?_) | with_reducible refine spl' (fun hc => ?_) (fun hc => ?_)) <;> try (exfalso; omega)) | with_reducible refine imp_intro (fun hc => ?_) | refine vcq (k := ?_) | refine dr 8 (k := ?_)))); all_goals (try conv => whnf); all_goals (try with_reducible exact trivial)
      · have hbx : b.bd x ≠ j.1 := hc
        refine ⟨x :: ks, ⟨⟨hnd, hsub⟩, by simp only [List.length_cons]; omega⟩, some [some 0, some 1, some 2, some 3, some 4, some 5, some 6], ?_⟩
        dsimp only
        rw [part_cons_other hbx]
        (repeat' ((conv => whnf); (first | ((first | with_reducible refine spl (fun hc => ?_) (fun hc => ?_) | with_reducible refine spl' (fun hc => ?_) (fun hc => ?_)) <;> try (exfalso; omega)) | with_reducible refine imp_intro (fun hc => ?_) | refine vcq (k := ?_) | refine dr 8 (k := ?_)))); all_goals (try conv => whnf); all_goals (try with_reducible exact trivial)
    · intro hall
      have hperm : ∀ n, n ∈ s.keys → ¬ (n ∈ ks ∧ b.bd n = j.1) → n ∈ ks := fun n hn hn2 => by
        obtain ⟨m, hm, he⟩ := List.mem_map.1 (hall n (mem_part.2 ⟨hn, hn2⟩))
        simp only [List.cons.injEq, and_true] at he
        rwa [← he]
      have hall : ∀ n, n ∈ s.keys ↔ n ∈ ks := fun n => ⟨fun hn => Classical.byContradiction fun h => h (hperm n hn (fun h2 => h h2.1)), h2 n⟩
      have e : s.part b j.1 s.keys = s.part b j.1 ks := by
        unfold St.part
        simp only [hall, List.contains_eq_mem]
      rw [e]
      (repeat' ((conv => whnf); (first | ((first | with_reducible refine spl (fun hc => ?_) (fun hc => ?_) | with_reducible refine spl' (fun hc => ?_) (fun hc => ?_)) <;> try (exfalso; omega)) | with_reducible refine imp_intro (fun hc => ?_) | refine vcq (k := ?_) | refine dr 8 (k := ?_)))); all_goals (try conv => whnf); all_goals (try with_reducible exact trivial)
      refine ⟨_, _, ⟨rfl, rfl⟩, some [some 0, some 1, some 2, some 3, some 4, some 5], ?_⟩
      (repeat' ((conv => whnf); (first | ((first | with_reducible refine spl (fun hc => ?_) (fun hc => ?_) | with_reducible refine spl' (fun hc => ?_) (fun hc => ?_)) <;> try (exfalso; omega)) | with_reducible refine imp_intro (fun hc => ?_) | refine vcq (k := ?_) | refine dr 8 (k := ?_)))); all_goals (try conv => whnf); all_goals (try with_reducible exact trivial)

theorem part_all {b : Bands} {s : St} {band : Int} : (s.part b band s.keys).cch = s.cch.filter (fun x => !(b.bd x.1 == band)) := by
  unfold St.part
  apply List.filter_congr
  intro x hx
  have : x.1 ∈ s.keys := List.mem_map.2 ⟨x, hx, rfl⟩
  simp [this]

theorem Asc.sub {l : List (Int × Int)} (h : Asc l) (p : Int × Int → Bool) : Asc (l.filter p) := List.Pairwise.filter p h

theorem clean0_ok {b : Bands} (hb : b.Ok) {s : St} (hs : s.Ok b) (band : Int) : (s.clean0 b band).Ok b := by
  refine ⟨hs.asc.filter _, fun x hx => hs.blk x (List.mem_filter.1 hx).1, ?_, ?_⟩
  · have := List.length_filter_le (fun x => !(b.bd x.1 == band)) s.cch
    have h2 := hs.len
    unfold St.clean0
    dsimp only
    omega
  · intro i
    have hL := hb.L
    unfold St.clean0
    dsimp only
    split
    · exact upd_cnt hs.cnt ⟨by omega, by omega⟩ i
    · exact hs.cnt i

theorem clean41 (b : Bands) (hb : b.Ok) (s : St) (hs : s.Ok b) (hsm : s.Small 10000) (g : MG) (band : Nat) (hband : (band : Int) < b.B) (j : Job) (hj1 : j.1 = band) (hj2 : j.2.1 = b.costOf s.keys band) : Sx.Callee Try.prog 41 [.ptr 0 0, jobV j] (s.heap b g)
    (fun r H => r = .tup [] ∧ H = (s.clean b band).heap b g) := by
  have hB := hb.B
  have hT := hb.T
  have hNb := N_bounds hb
  have hlow := lowest_le hb band s.keys
  obtain ⟨s1, s2, s3⟩ := hsm
  have hj3 : 0 ≤ j.2.1 ∧ j.2.1 ≤ 6 := by rw [hj2]; unfold Bands.costOf; omega
  refine callee_ent Try.E_ok Try.func41 rfl (by kernel_rfl) ?_
  (repeat' ((conv => whnf); (first | ((first | with_reducible refine spl (fun hc => ?_) (fun hc => ?_) | with_reducible refine spl' (fun hc => ?_) (fun hc => ?_)) <;> try (exfalso; omega)) | with_reducible refine imp_intro (fun hc => ?_) | refine vcq (k := ?_) | refine dr 11 (k := ?_) | refine dr 8 (k := ?_)))); all_goals (try conv => whnf); all_goals (try with_reducible exact trivial)
  refine callee_frame [0, 1, 2, 3, 4, 5] (delete55 b hb { s with cost := s.cost + j.2.1, cleaned := s.cleaned + 1 } ⟨hs.asc, hs.blk, hs.len, hs.cnt⟩ g j) rfl ?_ ?_
  · (repeat' ((conv => whnf); (first | ((first | with_reducible refine spl (fun hc => ?_) (fun hc => ?_) | with_reducible refine spl' (fun hc => ?_) (fun hc => ?_)) <;> try (exfalso; omega)) | with_reducible refine imp_intro (fun hc => ?_) | refine vcq (k := ?_) | refine dr 11 (k := ?_) | refine dr 8 (k := ?_)))); all_goals (try conv => whnf); all_goals (try with_reducible exact trivial)
  · rintro _ _ ⟨rfl, rfl⟩
    rw [hj1]
    generalize hp : St.part b { s with cost := s.cost + j.2.1, cleaned := s.cleaned + 1 } band (St.keys { s with cost := s.cost + j.2.1, cleaned := s.cleaned + 1 }) = p
    have hp2 : p.cost = s.cost + j.2.1 ∧ p.refreshed = s.refreshed ∧ p.cleaned = s.cleaned + 1 ∧ p.cnt = s.cnt := by subst hp; exact ⟨rfl, rfl, rfl, rfl⟩
    obtain ⟨p1, p2, p3, p4⟩ := hp2
    have hc0 := clean0_ok hb hs band
    have hcp : s.clean0 b band = { p with cnt := if b.costOf s.keys band = b.T then upd s.cnt band 0 else s.cnt } := by
      subst hp
      unfold St.clean0
      rw [part_all, hj2]
      rfl
    have hsq := squeeze57 b hb (s.clean0 b band) hc0 (by rw [hcp]; dsimp only; omega) (by rw [hcp]; dsimp only; omega) (band + 1) (by omega) g
    rw [hcp] at hsq
    have hcl : s.clean b band = (s.clean0 b band).sqz b (b.B.toNat - (band + 1)) (band + 1) := rfl
    rw [hcl, hcp]
    have hti : (band : Int).toNat = band := Int.toNat_natCast band
    (repeat' ((conv => whnf); (first | ((first | with_reducible refine spl (fun hc => ?_) (fun hc => ?_) | with_reducible refine spl' (fun hc => ?_) (fun hc => ?_)) <;> try (exfalso; omega)) | with_reducible refine imp_intro (fun hc => ?_) | refine vcq (k := ?_) | refine dr 11 (k := ?_) | refine dr 8 (k := ?_)))); all_goals (try conv => whnf); all_goals (try with_reducible exact trivial)
    · rw [if_pos (by rw [← hj2]; exact hc)] at hsq ⊢
      refine callee_frame [0, 1, 2, 3] hsq rfl ?_ ?_
      · (repeat' ((conv => whnf); (first | ((first | with_reducible refine spl (fun hc => ?_) (fun hc => ?_) | with_reducible refine spl' (fun hc => ?_) (fun hc => ?_)) <;> try (exfalso; omega)) | with_reducible refine imp_intro (fun hc => ?_) | refine vcq (k := ?_) | refine dr 11 (k := ?_) | refine dr 8 (k := ?_)))); all_goals (try conv => whnf); all_goals (try with_reducible exact trivial)
        refine ⟨fun i _ => ?_, ?_⟩
        · dsimp only
          rw [hti]
          unfold upd
          by_cases hi : i = band
          · rw [spliceP_pos hi, if_pos hi]; rfl
          · rw [spliceP_neg hi, if_neg hi, p4]
        · (repeat' ((conv => whnf); (first | ((first | with_reducible refine spl (fun hc => ?_) (fun hc => ?_) | with_reducible refine spl' (fun hc => ?_) (fun hc => ?_)) <;> try (exfalso; omega)) | with_reducible refine imp_intro (fun hc => ?_) | refine vcq (k := ?_) | refine dr 11 (k := ?_) | refine dr 8 (k := ?_)))); all_goals (try conv => whnf); all_goals (try with_reducible exact trivial)
      · rintro _ _ ⟨rfl, rfl⟩
        (repeat' ((conv => whnf); (first | ((first | with_reducible refine spl (fun hc => ?_) (fun hc => ?_) | with_reducible refine spl' (fun hc => ?_) (fun hc => ?_)) <;> try (exfalso; omega)) | with_reducible refine imp_intro (fun hc => ?_) | refine vcq (k := ?_) | refine dr 11 (k := ?_) | refine dr 8 (k := ?_)))); all_goals (try conv => whnf); all_goals (try with_reducible exact trivial)
        refine ⟨_, _, ⟨rfl, rfl⟩, some [some 0, some 1, some 2, some 3], ?_⟩
        (repeat' ((conv => whnf); (first | ((first | with_reducible refine spl (fun hc => ?_) (fun hc => ?_) | with_reducible refine spl' (fun hc => ?_) (fun hc => ?_)) <;> try (exfalso; omega)) | with_reducible refine imp_intro (fun hc => ?_) | refine vcq (k := ?_) | refine dr 11 (k := ?_) | refine dr 8 (k := ?_)))); all_goals (try conv => whnf); all_goals (try with_reducible exact trivial)
    · rw [if_neg (by rw [← hj2]; exact hc)] at hsq ⊢
      rw [← p4] at hsq ⊢
      refine callee_frame [0, 1, 2, 3] hsq rfl ?_ ?_
      · (repeat' ((conv => whnf); (first | ((first | with_reducible refine spl (fun hc => ?_) (fun hc => ?_) | with_reducible refine spl' (fun hc => ?_) (fun hc => ?_)) <;> try (exfalso; omega)) | with_reducible refine imp_intro (fun hc => ?_) | refine vcq (k := ?_) | refine dr 11 (k := ?_) | refine dr 8 (k := ?_)))); all_goals (try conv => whnf); all_goals (try with_reducible exact trivial)
      · rintro _ _ ⟨rfl, rfl⟩
        (repeat' ((conv => whnf); (first | ((first | with_reducible refine spl (fun hc => ?_) (fun hc => ?_) | with_reducible refine spl' (fun hc => ?_) (fun hc => ?_)) <;> try (exfalso; omega)) | with_reducible refine imp_intro (fun hc => ?_) | refine vcq (k := ?_) | refine dr 11 (k := ?_) | refine dr 8 (k := ?_)))); all_goals (try conv => whnf); all_goals (try with_reducible exact trivial)
        refine ⟨_, _, ⟨rfl, rfl⟩, some [some 0, some 1, some 2, some 3], ?_⟩
        (repeat' ((conv => whnf); (first | ((first | with_reducible refine spl (fun hc => ?_) (fun hc => ?_) | with_reducible refine spl' (fun hc => ?_) (fun hc => ?_)) <;> try (exfalso; omega)) | with_reducible refine imp_intro (fun hc => ?_) | refine vcq (k := ?_) | refine dr 11 (k := ?_) | refine dr 8 (k := ?_)))); all_goals (try conv => whnf); all_goals (try with_reducible exact trivial)
end Go.Proofs


namespace Go.Proofs
open Go Go.Sx
set_option maxRecDepth 100000
set_option maxHeartbeats 4000000
-- SxAid2

theorem has_jobOf {b : Bands} {ks : List Int} {i : Nat} : (b.jobOf ks i).has = true ↔ b.slots i ks ≠ 0 := by
  simp [Job.has, Bands.jobOf]

theorem fold_jobs {b : Bands} {ks : List Int} : ∀ (is : List Nat) (best : Nat), (∀ i ∈ is, best < i) → is.Pairwise (· < ·) → b.slots best ks ≠ 0 →
    ∃ k : Nat, is.foldl (b.pickBand ks) (best : Int) = k ∧ b.slots k ks ≠ 0 ∧ (k = best ∨ k ∈ is) ∧ ((is.map (b.jobOf ks)).filter Job.has).foldl jobStep (b.jobOf ks best) = b.jobOf ks k
  | [], best, _, _, h => ⟨best, rfl, h, .inl rfl, rfl⟩
  | i :: is, best, h1, h2, h3 => by
    have hp := List.pairwise_cons.1 h2
    by_cases hi : b.slots i ks = 0
    · obtain ⟨k, g1, g2, g3, g4⟩ := fold_jobs is best (fun j hj => h1 j (List.mem_cons_of_mem _ hj)) hp.2 h3
      refine ⟨k, ?_, g2, g3.imp_right (List.mem_cons_of_mem _), ?_⟩
      · simp only [List.foldl_cons]
        rw [show b.pickBand ks best i = best by unfold Bands.pickBand; rw [if_pos hi]]
        exact g1
      · rw [List.map_cons, List.filter_cons_of_neg (by rw [has_jobOf]; simp [hi])]
        exact g4
    · have hlt := h1 i List.mem_cons_self
      have hcmp : jobCmp (b.jobOf ks i) (b.jobOf ks best) < 0 ↔ b.costOf ks i * b.slots best ks < b.costOf ks best * b.slots i ks := by
        unfold jobCmp Bands.jobOf
        simp only [hi, h3, if_false]
        split
        · omega
        · omega
      have hpick : b.pickBand ks best i = if b.costOf ks i * b.slots best ks < b.costOf ks best * b.slots i ks then (i : Int) else best := by
        unfold Bands.pickBand
        rw [if_neg hi, if_neg (by omega)]
      rw [List.map_cons, List.filter_cons_of_pos (has_jobOf.2 hi)]
      simp only [List.foldl_cons]
      rw [hpick]
      unfold jobStep
      by_cases hc : b.costOf ks i * b.slots best ks < b.costOf ks best * b.slots i ks
      · obtain ⟨k, g1, g2, g3, g4⟩ := fold_jobs is i (fun j hj => hp.1 j hj) hp.2 hi
        rw [if_pos hc, if_pos (hcmp.2 hc)]
        refine ⟨k, g1, g2, .inr ?_, g4⟩
        rcases g3 with rfl | g3
        · exact List.mem_cons_self
        · exact List.mem_cons_of_mem _ g3
      · obtain ⟨k, g1, g2, g3, g4⟩ := fold_jobs is best (fun j hj => h1 j (List.mem_cons_of_mem _ hj)) hp.2 h3
        rw [if_neg hc, if_neg (fun h => hc (hcmp.1 h))]
        exact ⟨k, g1, g2, g3.imp_right (List.mem_cons_of_mem _), g4⟩

theorem fold_start {b : Bands} {ks : List Int} : ∀ (is : List Nat), is.Pairwise (· < ·) → (∀ i ∈ is, b.slots i ks = 0) ∨
    ∃ (x : Job) (l : List Job) (k : Nat), (is.map (b.jobOf ks)).filter Job.has = x :: l ∧ is.foldl (b.pickBand ks) (-1) = k ∧ b.slots k ks ≠ 0 ∧ k ∈ is ∧ l.foldl jobStep x = b.jobOf ks k
  | [], _ => .inl (by simp)
  | i :: is, h => by
    have hp := List.pairwise_cons.1 h
    by_cases hi : b.slots i ks = 0
    · rcases fold_start is hp.2 with h1 | ⟨x, l, k, g1, g2, g3, g4, g5⟩
      · left
        intro j hj
        rcases List.mem_cons.1 hj with rfl | hj
        · exact hi
        · exact h1 j hj
      · right
        refine ⟨x, l, k, ?_, ?_, g3, List.mem_cons_of_mem _ g4, g5⟩
        · rw [List.map_cons, List.filter_cons_of_neg (by rw [has_jobOf]; simp [hi])]
          exact g1
        · simp only [List.foldl_cons]
          rw [show b.pickBand ks (-1) i = -1 by unfold Bands.pickBand; rw [if_pos hi]]
          exact g2
    · right
      obtain ⟨k, g1, g2, g3, g4⟩ := fold_jobs is i (fun j hj => hp.1 j hj) hp.2 hi
      refine ⟨_, _, k, by rw [List.map_cons, List.filter_cons_of_pos (has_jobOf.2 hi)], ?_, g2, ?_, g4⟩
      · simp only [List.foldl_cons]
        rw [show b.pickBand ks (-1) i = i by unfold Bands.pickBand; rw [if_neg hi, if_pos (by omega)]]
        exact g1
      · rcases g3 with rfl | g3
        · exact List.mem_cons_self
        · exact List.mem_cons_of_mem _ g3

theorem slots_pos {b : Bands} {n : Int} : ∀ {ks : List Int}, n ∈ ks → b.slots (b.bd n) ks ≠ 0
  | x :: ks, h => by
    unfold Bands.slots
    have h0 := (slots_nonneg (b := b) (b.bd n) ks).1
    rcases List.mem_cons.1 h with rfl | h
    · rw [if_pos rfl]; omega
    · have := slots_pos (b := b) h
      split <;> omega

/-- the band that is chosen, and the job -/
theorem choose_spec {b : Bands} (hb : b.Ok) {ks : List Int} (hne : ks ≠ []) (hk : ∀ n ∈ ks, 0 ≤ n ∧ n < b.N) :
    ∃ (x : Job) (l : List Job) (k : Nat), b.jobs ks = x :: l ∧ b.choose ks = k ∧ b.slots k ks ≠ 0 ∧ (k : Int) < b.B ∧ l.foldl jobStep x = b.jobOf ks k := by
  rcases fold_start (b := b) (ks := ks) (List.range b.B.toNat) List.pairwise_lt_range with h | ⟨x, l, k, g1, g2, g3, g4, g5⟩
  · obtain ⟨n, hn⟩ := List.exists_mem_of_ne_nil ks hne
    have hbd := bd_lt hb (hk n hn)
    have := h (b.bd n).toNat (List.mem_range.2 (by omega))
    rw [show ((b.bd n).toNat : Int) = b.bd n by omega] at this
    exact absurd this (slots_pos hn)
  · refine ⟨x, l, k, g1, g2, g3, ?_, g5⟩
    have := List.mem_range.1 g4
    omega

theorem keys_blk {b : Bands} {s : St} (hs : s.Ok b) : ∀ n ∈ s.keys, 0 ≤ n ∧ n < b.N := by
  intro n hn
  obtain ⟨y, hy, rfl⟩ := List.mem_map.1 hn
  exact hs.blk y hy

theorem clean_ok {b : Bands} (hb : b.Ok) {s : St} (hs : s.Ok b) (band : Int) : (s.clean b band).Ok b := sqz_ok hb _ _ _ (clean0_ok hb hs band)

theorem clean_small {b : Bands} (hb : b.Ok) {s : St} {m : Int} (hs : s.Small m) (band : Int) : (s.clean b band).Small (m + 1) := by
  have hB := hb.B
  have hT := hb.T
  have h1 := sqz_cost hb (b.B.toNat - (band.toNat + 1)) (band.toNat + 1) (s.clean0 b band)
  have h2 := sqz_same (b := b) (b.B.toNat - (band.toNat + 1)) (band.toNat + 1) (s.clean0 b band)
  have h3 := lowest_le hb band s.keys
  obtain ⟨c1, c2, c3⟩ := hs
  have hk : ((b.B.toNat - (band.toNat + 1) : Nat) : Int) ≤ 6 := by omega
  have hk0 : b.T * ((b.B.toNat - (band.toNat + 1) : Nat) : Int) ≤ 36 := Int.le_trans (Int.mul_le_mul hT.2 hk (by omega) (by omega)) (by omega)
  have e : (s.clean0 b band).cost = s.cost + (b.T - b.lowest band s.keys) := rfl
  have e2 : (s.clean0 b band).refreshed = s.refreshed := rfl
  have e3 : (s.clean0 b band).cleaned = s.cleaned + 1 := rfl
  rw [e, e2] at h1
  rw [e3] at h2
  unfold St.clean
  exact ⟨by omega, by rw [h2.2.2]; omega, by omega⟩

theorem filter_lt {α : Type} {p : α → Bool} : ∀ {l : List α}, (∃ x ∈ l, p x = false) → (l.filter p).length < l.length
  | [], ⟨x, hx, _⟩ => by simp at hx
  | y :: l, ⟨x, hx, hp⟩ => by
    rcases List.mem_cons.1 hx with rfl | hx
    · rw [List.filter_cons_of_neg (by rw [hp]; simp)]
      have := List.length_filter_le p l
      simp only [List.length_cons]
      omega
    · have := filter_lt (p := p) ⟨x, hx, hp⟩
      have h2 : ((y :: l).filter p).length ≤ (l.filter p).length + 1 := by
        by_cases hy : p y = true
        · rw [List.filter_cons_of_pos hy]; simp
        · rw [List.filter_cons_of_neg hy]; omega
      simp only [List.length_cons]
      omega

theorem slots_mem {b : Bands} {band : Int} : ∀ {ks : List Int}, b.slots band ks ≠ 0 → ∃ n ∈ ks, b.bd n = band
  | [], h => absurd rfl h
  | x :: ks, h => by
    unfold Bands.slots at h
    by_cases hx : b.bd x = band
    · exact ⟨x, List.mem_cons_self, hx⟩
    · rw [if_neg hx] at h
      obtain ⟨n, h1, h2⟩ := slots_mem h
      exact ⟨n, List.mem_cons_of_mem _ h1, h2⟩

theorem clean_cch {b : Bands} {s : St} {band : Int} : (s.clean b band).cch = s.cch.filter (fun x => !(b.bd x.1 == band)) := by
  unfold St.clean
  rw [(sqz_same _ _ _).2.1]
  rfl

theorem clean_len {b : Bands} {s : St} {band : Int} (h : b.slots band s.keys ≠ 0) : (s.clean b band).cch.length < s.cch.length := by
  rw [clean_cch]
  obtain ⟨n, h1, h2⟩ := slots_mem h
  obtain ⟨x, hx, rfl⟩ := List.mem_map.1 h1
  exact filter_lt ⟨x, hx, by simp [h2]⟩

theorem ins_ok {b : Bands} {s : St} (hs : s.Ok b) {w : Int × Int} (hw : 0 ≤ w.1 ∧ w.1 < b.N) (hl : w.1 ∈ s.keys ∨ (s.cch.length : Int) < b.C) : St.Ok b { s with cch := ins w s.cch } := by
  refine ⟨ins_asc hs.asc, fun x hx => ?_, ?_, hs.cnt⟩
  · have : x.1 ∈ (ins w s.cch).map Prod.fst := List.mem_map.2 ⟨x, hx, rfl⟩
    rcases (mem_ins hs.asc x.1).1 this with h | h
    · rw [h]; exact hw
    · exact keys_blk hs _ h
  · have h1 := ins_length (w := w) hs.asc
    have h2 := hs.len
    dsimp only
    rw [h1]
    split
    · exact h2
    · rename_i hn
      rcases hl with hl | hl
      · exact absurd hl hn
      · omega

theorem write_ok {b : Bands} (hb : b.Ok) {s : St} (hs : s.Ok b) {w : Int × Int} (hw : 0 ≤ w.1 ∧ w.1 < b.N) : (s.write b w).Ok b := by
  have hC := hb.C
  unfold St.write
  split
  · rename_i h; exact ins_ok hs hw (.inl h)
  · split
    · rename_i h1 h2
      refine ins_ok (clean_ok hb hs _) hw (.inr ?_)
      have hne : s.keys ≠ [] := by
        intro h
        have : s.cch.length = 0 := by simpa [St.keys] using h
        omega
      obtain ⟨x, l, k, g1, g2, g3, g4, g5⟩ := choose_spec hb hne (keys_blk hs)
      rw [g2]
      have := clean_len g3
      omega
    · rename_i h1 h2
      have := hs.len
      exact ins_ok hs hw (.inr (by omega))

theorem write_small {b : Bands} (hb : b.Ok) {s : St} {m : Int} (hs : s.Small m) {w : Int × Int} : (s.write b w).Small (m + 1) := by
  unfold St.write
  obtain ⟨c1, c2, c3⟩ := id hs
  split
  · exact ⟨by dsimp only; omega, by dsimp only; omega, by dsimp only; omega⟩
  · split
    · obtain ⟨c1, c2, c3⟩ := clean_small hb hs (b.choose s.keys)
      exact ⟨c1, c2, c3⟩
    · exact ⟨by dsimp only; omega, by dsimp only; omega, by dsimp only; omega⟩

/-- a write -/
def wC (w : Int × Int) : List V := [.int .i64 w.1, .int .i64 w.2]
def wV (w : Int × Int) : V := .agg [.int .i64 w.1, .int .i64 w.2]

theorem put_dom {l : List (Int × Int)} (h : Asc l) (w : Int × Int) : allInts [IntKind.i64] (fun k => (domPut (domOf l) [w.1] k ↔ domOf (ins w l) k) ∧ (domPut (domOf l) [w.1] k → valPut (valOf l) [w.1] [.int .i64 w.2] k = valOf (ins w l) k)) := by
  intro y
  refine ⟨?_, fun _ => ?_⟩
  · unfold domPut domOf
    simp only [List.headD_cons, mem_ins h, List.cons.injEq, and_true]
  · unfold valPut valOf mrgL
    simp only [List.headD_cons, pickDL, pickD, look_ins h, List.cons.injEq, and_true]
    by_cases hy : y = w.1
    · simp [hy]
    · simp [hy]

theorem put_n {l : List (Int × Int)} (h : Asc l) (w : Int × Int) : nPut (domOf l) l.length [w.1] = (ins w l).length := by
  rw [ins_length h]
  by_cases hw : w.1 ∈ l.map Prod.fst
  · have hd : domOf l [w.1] := hw
    simp [nPut, hd, hw]
  · have hd : ¬ domOf l [w.1] := hw
    simp [nPut, hd, hw]

theorem write44 (b : Bands) (hb : b.Ok) (s : St) (hs : s.Ok b) (hsm : s.Small 9000) (g : MG) (w : Int × Int) (_hw : 0 ≤ w.1 ∧ w.1 < b.N) : Sx.Callee Try.prog 44 [.ptr 0 0, wV w] (s.heap b g)
    (fun r H => r = .tup [] ∧ ∃ g', H = (s.write b w).heap b g') := by
  have hC := hb.C
  refine callee_ent Try.E_ok Try.func44 rfl (by kernel_rfl) ?_
  (repeat' ((conv => whnf); (first | ((first | with_reducible refine spl (fun hc => ?_) (fun hc => ?_) | with_reducible refine spl' (fun hc => ?_) (fun hc => ?_)) <;> try (exfalso; omega)) | with_reducible refine imp_intro (fun hc => ?_) | refine vcq (k := ?_) | refine dr 12 (k := ?_) | refine dr 15 (k := ?_) | refine dr 8 (k := ?_)))); all_goals (try conv => whnf); all_goals (try with_reducible exact trivial)
  · have hc1 : ¬ w.1 ∈ s.keys := hc.1
    have hwr : s.write b w = { s.clean b (b.choose s.keys) with cch := ins w (s.clean b (b.choose s.keys)).cch } := by
      unfold St.write
      rw [if_neg hc1, if_pos hc.2]
    have hne : s.keys ≠ [] := by
      intro h
      have : s.cch.length = 0 := by simpa [St.keys] using h
      omega
    obtain ⟨x, l, k, g1, g2, g3, g4, g5⟩ := choose_spec hb hne (keys_blk hs)
    have hkl : s.keys.length ≤ 12 := by have := hs.len; unfold St.keys; rw [List.length_map]; omega
    have hB := hb.B
    have hsmall : ∀ j ∈ b.jobs s.keys, j.Small := by
      intro j hj
      obtain ⟨hj, _⟩ := List.mem_filter.1 hj
      obtain ⟨i, hi, rfl⟩ := List.mem_map.1 hj
      have := List.mem_range.1 hi
      exact jobOf_small hb hkl (by omega)
    have hll : l.length ≤ 100 := by
      have : (b.jobs s.keys).length ≤ b.B.toNat := Nat.le_trans (List.length_filter_le _ _) (by simp)
      rw [g1] at this
      simp only [List.length_cons] at this
      omega
    rw [g1] at hsmall
    have hco := clean_ok hb hs (k : Int)
    refine callee_frame [0, 1, 2, 3] (jobs40 b hb s hs g) rfl ?_ ?_
    · (repeat' ((conv => whnf); (first | ((first | with_reducible refine spl (fun hc => ?_) (fun hc => ?_) | with_reducible refine spl' (fun hc => ?_) (fun hc => ?_)) <;> try (exfalso; omega)) | with_reducible refine imp_intro (fun hc => ?_) | refine vcq (k := ?_) | refine dr 12 (k := ?_) | refine dr 15 (k := ?_) | refine dr 8 (k := ?_)))); all_goals (try conv => whnf); all_goals (try with_reducible exact trivial)
    · rintro _ _ ⟨rfl, rfl⟩
      rw [g1]
      (repeat' ((conv => whnf); (first | ((first | with_reducible refine spl (fun hc => ?_) (fun hc => ?_) | with_reducible refine spl' (fun hc => ?_) (fun hc => ?_)) <;> try (exfalso; omega)) | with_reducible refine imp_intro (fun hc => ?_) | refine vcq (k := ?_) | refine dr 12 (k := ?_) | refine dr 15 (k := ?_) | refine dr 8 (k := ?_)))); all_goals (try conv => whnf); all_goals (try with_reducible exact trivial)
      refine callee_view (minFunc60 x l hll (hsmall x List.mem_cons_self) (fun j hj => hsmall j (List.mem_cons_of_mem _ hj))) ?_
      (repeat' ((conv => whnf); (first | ((first | with_reducible refine spl (fun hc => ?_) (fun hc => ?_) | with_reducible refine spl' (fun hc => ?_) (fun hc => ?_)) <;> try (exfalso; omega)) | with_reducible refine imp_intro (fun hc => ?_) | refine vcq (k := ?_) | refine dr 12 (k := ?_) | refine dr 15 (k := ?_) | refine dr 8 (k := ?_)))); all_goals (try conv => whnf); all_goals (try with_reducible exact trivial)
      rintro _ rfl
      rw [g5]
      refine callee_frame [0, 1, 2, 3] (clean41 b hb s hs ⟨by have := hsm.1; omega, by have := hsm.2; omega, by have := hsm.3; omega⟩ g k g4 (b.jobOf s.keys k) (by unfold Bands.jobOf; rw [if_neg g3]) rfl) rfl ?_ ?_
      · (repeat' ((conv => whnf); (first | ((first | with_reducible refine spl (fun hc => ?_) (fun hc => ?_) | with_reducible refine spl' (fun hc => ?_) (fun hc => ?_)) <;> try (exfalso; omega)) | with_reducible refine imp_intro (fun hc => ?_) | refine vcq (k := ?_) | refine dr 12 (k := ?_) | refine dr 15 (k := ?_) | refine dr 8 (k := ?_)))); all_goals (try conv => whnf); all_goals (try with_reducible exact trivial)
      · rintro _ _ ⟨rfl, rfl⟩
        (repeat' ((conv => whnf); (first | ((first | with_reducible refine spl (fun hc => ?_) (fun hc => ?_) | with_reducible refine spl' (fun hc => ?_) (fun hc => ?_)) <;> try (exfalso; omega)) | with_reducible refine imp_intro (fun hc => ?_) | refine vcq (k := ?_) | refine dr 12 (k := ?_) | refine dr 15 (k := ?_) | refine dr 8 (k := ?_)))); all_goals (try conv => whnf); all_goals (try with_reducible exact trivial)
        intro g'
        (repeat' ((conv => whnf); (first | ((first | with_reducible refine spl (fun hc => ?_) (fun hc => ?_) | with_reducible refine spl' (fun hc => ?_) (fun hc => ?_)) <;> try (exfalso; omega)) | with_reducible refine imp_intro (fun hc => ?_) | refine vcq (k := ?_) | refine dr 12 (k := ?_) | refine dr 15 (k := ?_) | refine dr 8 (k := ?_)))); all_goals (try conv => whnf); all_goals (try with_reducible exact trivial)
        rw [hwr, g2]
        refine ⟨_, _, ⟨rfl, g', rfl⟩, some [some 0, some 1, some 2, some 3], ?_⟩
        (repeat' ((conv => whnf); (first | ((first | with_reducible refine spl (fun hc => ?_) (fun hc => ?_) | with_reducible refine spl' (fun hc => ?_) (fun hc => ?_)) <;> try (exfalso; omega)) | with_reducible refine imp_intro (fun hc => ?_) | refine vcq (k := ?_) | refine dr 12 (k := ?_) | refine dr 15 (k := ?_) | refine dr 8 (k := ?_)))); all_goals (try conv => whnf); all_goals (try with_reducible exact trivial)
        refine ⟨put_n hco.asc w, put_dom hco.asc w, rfl, ?_⟩
        (repeat' ((conv => whnf); (first | ((first | with_reducible refine spl (fun hc => ?_) (fun hc => ?_) | with_reducible refine spl' (fun hc => ?_) (fun hc => ?_)) <;> try (exfalso; omega)) | with_reducible refine imp_intro (fun hc => ?_) | refine vcq (k := ?_) | refine dr 12 (k := ?_) | refine dr 15 (k := ?_) | refine dr 8 (k := ?_)))); all_goals (try conv => whnf); all_goals (try with_reducible exact trivial)
  · intro g'
    have hwr : s.write b w = { s with cch := ins w s.cch } := by
      unfold St.write
      by_cases h1 : w.1 ∈ s.keys
      · rw [if_pos h1]
      · rw [if_neg h1, if_neg (fun h2 => hc ⟨h1, h2⟩)]
    rw [hwr]
    (repeat' ((conv => whnf); (first | ((first | with_reducible refine spl (fun hc => ?_) (fun hc => ?_) | with_reducible refine spl' (fun hc => ?_) (fun hc => ?_)) <;> try (exfalso; omega)) | with_reducible refine imp_intro (fun hc => ?_) | refine vcq (k := ?_) | refine dr 12 (k := ?_) | refine dr 15 (k := ?_) | refine dr 8 (k := ?_)))); all_goals (try conv => whnf); all_goals (try with_reducible exact trivial)
    refine ⟨_, _, ⟨rfl, g', rfl⟩, some [some 0, some 1, some 2, some 3], ?_⟩
    (repeat' ((conv => whnf); (first | ((first | with_reducible refine spl (fun hc => ?_) (fun hc => ?_) | with_reducible refine spl' (fun hc => ?_) (fun hc => ?_)) <;> try (exfalso; omega)) | with_reducible refine imp_intro (fun hc => ?_) | refine vcq (k := ?_) | refine dr 12 (k := ?_) | refine dr 15 (k := ?_) | refine dr 8 (k := ?_)))); all_goals (try conv => whnf); all_goals (try with_reducible exact trivial)
    refine ⟨put_n hs.asc w, put_dom hs.asc w, rfl, ?_⟩
    (repeat' ((conv => whnf); (first | ((first | with_reducible refine spl (fun hc => ?_) (fun hc => ?_) | with_reducible refine spl' (fun hc => ?_) (fun hc => ?_)) <;> try (exfalso; omega)) | with_reducible refine imp_intro (fun hc => ?_) | refine vcq (k := ?_) | refine dr 12 (k := ?_) | refine dr 15 (k := ?_) | refine dr 8 (k := ?_)))); all_goals (try conv => whnf); all_goals (try with_reducible exact trivial)
end Go.Proofs


namespace Go.Proofs
open Go Go.Sx
set_option maxRecDepth 100000
set_option maxHeartbeats 4000000
-- SxAid2

theorem run_snoc {b : Bands} {l : List (Int × Int)} {i : Nat} (h : i < l.length) : St.run b (l.take (i + 1)) = (St.run b (l.take i)).write b (l.getD i (0, 0)) := by
  unfold St.run
  rw [take_succ_getD (0, 0) h, List.foldl_append]
  rfl

def InB (b : Bands) (l : List (Int × Int)) : Prop := ∀ w ∈ l, 0 ≤ w.1 ∧ w.1 < b.N

theorem begin_ok {b : Bands} (hb : b.Ok) : St.begin.Ok b := ⟨List.Pairwise.nil, fun x hx => by simp [St.begin] at hx, by have := hb.C; simp [St.begin]; omega, fun i => by have := hb.L; simp [St.begin]; omega⟩

theorem foldl_ok {b : Bands} (hb : b.Ok) : ∀ (l : List (Int × Int)) (s : St) (m : Int), s.Ok b → s.Small m → InB b l → (l.foldl (St.write b) s).Ok b ∧ (l.foldl (St.write b) s).Small (m + l.length)
  | [], s, m, h1, h2, _ => ⟨h1, by simpa using h2⟩
  | w :: l, s, m, h1, h2, h3 => by
    obtain ⟨g1, g2⟩ := foldl_ok hb l _ (m + 1) (write_ok hb h1 (h3 w List.mem_cons_self)) (write_small hb h2) (fun x hx => h3 x (List.mem_cons_of_mem _ hx))
    refine ⟨g1, ?_⟩
    simp only [List.length_cons, List.foldl_cons]
    rw [show m + ((l.length + 1 : Nat) : Int) = m + 1 + l.length by omega]
    exact g2

theorem run_ok {b : Bands} (hb : b.Ok) {l : List (Int × Int)} (h : InB b l) : (St.run b l).Ok b ∧ (St.run b l).Small l.length := by
  have := foldl_ok hb l St.begin 0 (begin_ok hb) ⟨by simp [St.begin], by simp [St.begin], by simp [St.begin]⟩ h
  rw [Int.zero_add] at this
  exact this

theorem InB.take {b : Bands} {l : List (Int × Int)} (h : InB b l) (i : Nat) : InB b (l.take i) := fun w hw => h w (List.mem_of_mem_take hw)

theorem run38 (b : Bands) (hb : b.Ok) (l : List (Int × Int)) (hl : l.length ≤ 8000) (hin : InB b l) : NewC Try.prog 38 [b.v, .sl 2 l.length (rowOf wC (0, 0) l)] (fun r H => ∃ g, r = .ptr 0 0 ∧ H = (St.run b l).heap b g) := by
  refine newC_ent Try.E_ok Try.func38 rfl (by kernel_rfl) ?_
  (repeat' ((conv => whnf); (first | ((first | with_reducible refine spl (fun hc => ?_) (fun hc => ?_) | with_reducible refine spl' (fun hc => ?_) (fun hc => ?_)) <;> try (exfalso; omega)) | with_reducible refine imp_intro (fun hc => ?_) | refine vcq (k := ?_) | refine dr 1 (k := ?_) | refine dr 2 (k := ?_) | refine dr 3 (k := ?_) | refine dr 4 (k := ?_) | refine dr 5 (k := ?_) | refine dr 6 (k := ?_) | refine dr 7 (k := ?_) | refine dr 8 (k := ?_) | refine dr 9 (k := ?_) | refine dr 10 (k := ?_) | refine dr 11 (k := ?_) | refine dr 12 (k := ?_) | refine dr 1001 (k := ?_) | refine dr 1002 (k := ?_) | refine dr 1003 (k := ?_) | refine dr 1004 (k := ?_) | refine dr 1005 (k := ?_) | refine dr 1006 (k := ?_) | refine dr 1007 (k := ?_) | refine dr 1008 (k := ?_) | refine dr 1009 (k := ?_) | refine dr 1010 (k := ?_) | refine dr 1011 (k := ?_) | refine dr 1012 (k := ?_) | refine dr 1013 (k := ?_) | refine dr 1014 (k := ?_) | refine dr 1015 (k := ?_) | refine dr 1016 (k := ?_)))); all_goals (try conv => whnf); all_goals (try with_reducible exact trivial)
  refine callee_new (begin49 b hb) rfl ?_
  rintro _ _ ⟨g, rfl, rfl⟩
  (repeat' ((conv => whnf); (first | ((first | with_reducible refine spl (fun hc => ?_) (fun hc => ?_) | with_reducible refine spl' (fun hc => ?_) (fun hc => ?_)) <;> try (exfalso; omega)) | with_reducible refine imp_intro (fun hc => ?_) | refine vcq (k := ?_) | refine dr 1 (k := ?_) | refine dr 2 (k := ?_) | refine dr 3 (k := ?_) | refine dr 4 (k := ?_) | refine dr 5 (k := ?_) | refine dr 6 (k := ?_) | refine dr 7 (k := ?_) | refine dr 8 (k := ?_) | refine dr 9 (k := ?_) | refine dr 10 (k := ?_) | refine dr 11 (k := ?_) | refine dr 12 (k := ?_) | refine dr 1001 (k := ?_) | refine dr 1002 (k := ?_) | refine dr 1003 (k := ?_) | refine dr 1004 (k := ?_) | refine dr 1005 (k := ?_) | refine dr 1006 (k := ?_) | refine dr 1007 (k := ?_) | refine dr 1008 (k := ?_) | refine dr 1009 (k := ?_) | refine dr 1010 (k := ?_) | refine dr 1011 (k := ?_) | refine dr 1012 (k := ?_) | refine dr 1013 (k := ?_) | refine dr 1014 (k := ?_) | refine dr 1015 (k := ?_) | refine dr 1016 (k := ?_)))); all_goals (try conv => whnf); all_goals (try with_reducible exact trivial)
  refine ⟨Nat × MG, fun i => i.1 ≤ l.length, fun i => l.length - i.1, fun i => [(12, .int .i64 i.1)], fun i => [(1, .cells 70 [.int .i64 b.B, .int .i64 b.T, .int .i64 b.K, .int .i64 b.C, .int .i64 b.L, .osl 2 b.N.toNat, .lit (.slice none 0 0), .osl 3 b.B.toNat, .int .i64 (St.run b (l.take i.1)).cost, .int .i64 (St.run b (l.take i.1)).cleaned, .int .i64 (St.run b (l.take i.1)).refreshed, .map 4]), (2, (St.run b (l.take i.1)).o1 b), (3, (St.run b (l.take i.1)).o2 b), (4, (St.run b (l.take i.1)).o3 i.2)], fun _ => [], (0, g), ⟨by simp, some [some 0, some 1, some 2, some 3, some 4], ?_⟩, ?_⟩
  · (repeat' ((conv => whnf); (first | ((first | with_reducible refine spl (fun hc => ?_) (fun hc => ?_) | with_reducible refine spl' (fun hc => ?_) (fun hc => ?_)) <;> try (exfalso; omega)) | with_reducible refine imp_intro (fun hc => ?_) | refine vcq (k := ?_) | refine dr 1 (k := ?_) | refine dr 2 (k := ?_) | refine dr 3 (k := ?_) | refine dr 4 (k := ?_) | refine dr 5 (k := ?_) | refine dr 6 (k := ?_) | refine dr 7 (k := ?_) | refine dr 8 (k := ?_) | refine dr 9 (k := ?_) | refine dr 10 (k := ?_) | refine dr 11 (k := ?_) | refine dr 12 (k := ?_) | refine dr 1001 (k := ?_) | refine dr 1002 (k := ?_) | refine dr 1003 (k := ?_) | refine dr 1004 (k := ?_) | refine dr 1005 (k := ?_) | refine dr 1006 (k := ?_) | refine dr 1007 (k := ?_) | refine dr 1008 (k := ?_) | refine dr 1009 (k := ?_) | refine dr 1010 (k := ?_) | refine dr 1011 (k := ?_) | refine dr 1012 (k := ?_) | refine dr 1013 (k := ?_) | refine dr 1014 (k := ?_) | refine dr 1015 (k := ?_) | refine dr 1016 (k := ?_)))); all_goals (try conv => whnf); all_goals (try with_reducible exact trivial)
    refine ⟨fun k => ⟨by simp [domOf, St.run, St.begin], fun h => h.elim⟩, rfl, ?_⟩
    (repeat' ((conv => whnf); (first | ((first | with_reducible refine spl (fun hc => ?_) (fun hc => ?_) | with_reducible refine spl' (fun hc => ?_) (fun hc => ?_)) <;> try (exfalso; omega)) | with_reducible refine imp_intro (fun hc => ?_) | refine vcq (k := ?_) | refine dr 1 (k := ?_) | refine dr 2 (k := ?_) | refine dr 3 (k := ?_) | refine dr 4 (k := ?_) | refine dr 5 (k := ?_) | refine dr 6 (k := ?_) | refine dr 7 (k := ?_) | refine dr 8 (k := ?_) | refine dr 9 (k := ?_) | refine dr 10 (k := ?_) | refine dr 11 (k := ?_) | refine dr 12 (k := ?_) | refine dr 1001 (k := ?_) | refine dr 1002 (k := ?_) | refine dr 1003 (k := ?_) | refine dr 1004 (k := ?_) | refine dr 1005 (k := ?_) | refine dr 1006 (k := ?_) | refine dr 1007 (k := ?_) | refine dr 1008 (k := ?_) | refine dr 1009 (k := ?_) | refine dr 1010 (k := ?_) | refine dr 1011 (k := ?_) | refine dr 1012 (k := ?_) | refine dr 1013 (k := ?_) | refine dr 1014 (k := ?_) | refine dr 1015 (k := ?_) | refine dr 1016 (k := ?_)))); all_goals (try conv => whnf); all_goals (try with_reducible exact trivial)
  · rintro ⟨i, g⟩ h1
    dsimp only at h1
    have hok := run_ok hb (hin.take i)
    have hti : (i : Int).toNat = i := Int.toNat_natCast i
    (repeat' ((conv => whnf); (first | ((first | with_reducible refine spl (fun hc => ?_) (fun hc => ?_) | with_reducible refine spl' (fun hc => ?_) (fun hc => ?_)) <;> try (exfalso; omega)) | with_reducible refine imp_intro (fun hc => ?_) | refine vcq (k := ?_) | refine dr 1 (k := ?_) | refine dr 2 (k := ?_) | refine dr 3 (k := ?_) | refine dr 4 (k := ?_) | refine dr 5 (k := ?_) | refine dr 6 (k := ?_) | refine dr 7 (k := ?_) | refine dr 8 (k := ?_) | refine dr 9 (k := ?_) | refine dr 10 (k := ?_) | refine dr 11 (k := ?_) | refine dr 12 (k := ?_) | refine dr 1001 (k := ?_) | refine dr 1002 (k := ?_) | refine dr 1003 (k := ?_) | refine dr 1004 (k := ?_) | refine dr 1005 (k := ?_) | refine dr 1006 (k := ?_) | refine dr 1007 (k := ?_) | refine dr 1008 (k := ?_) | refine dr 1009 (k := ?_) | refine dr 1010 (k := ?_) | refine dr 1011 (k := ?_) | refine dr 1012 (k := ?_) | refine dr 1013 (k := ?_) | refine dr 1014 (k := ?_) | refine dr 1015 (k := ?_) | refine dr 1016 (k := ?_)))); all_goals (try conv => whnf); all_goals (try with_reducible exact trivial)
    · have hi : i < l.length := by dsimp only at hc; omega
      have hw : l.getD (i : Int).toNat (0, 0) = l.getD i (0, 0) := by rw [hti]
      have hlt : (l.take i).length ≤ 8000 := by rw [List.length_take]; omega
      obtain ⟨o1, o2, o3, o4⟩ := hok
      refine callee_frame [1, 2, 3, 4] (write44 b hb _ o1 ⟨by omega, by omega, by omega⟩ g (l.getD (i : Int).toNat (0, 0)) (by rw [hw]; exact hin _ (getD_mem hi))) rfl ?_ ?_
      · (repeat' ((conv => whnf); (first | ((first | with_reducible refine spl (fun hc => ?_) (fun hc => ?_) | with_reducible refine spl' (fun hc => ?_) (fun hc => ?_)) <;> try (exfalso; omega)) | with_reducible refine imp_intro (fun hc => ?_) | refine vcq (k := ?_) | refine dr 1 (k := ?_) | refine dr 2 (k := ?_) | refine dr 3 (k := ?_) | refine dr 4 (k := ?_) | refine dr 5 (k := ?_) | refine dr 6 (k := ?_) | refine dr 7 (k := ?_) | refine dr 8 (k := ?_) | refine dr 9 (k := ?_) | refine dr 10 (k := ?_) | refine dr 11 (k := ?_) | refine dr 12 (k := ?_) | refine dr 1001 (k := ?_) | refine dr 1002 (k := ?_) | refine dr 1003 (k := ?_) | refine dr 1004 (k := ?_) | refine dr 1005 (k := ?_) | refine dr 1006 (k := ?_) | refine dr 1007 (k := ?_) | refine dr 1008 (k := ?_) | refine dr 1009 (k := ?_) | refine dr 1010 (k := ?_) | refine dr 1011 (k := ?_) | refine dr 1012 (k := ?_) | refine dr 1013 (k := ?_) | refine dr 1014 (k := ?_) | refine dr 1015 (k := ?_) | refine dr 1016 (k := ?_)))); all_goals (try conv => whnf); all_goals (try with_reducible exact trivial)
      · rintro _ _ ⟨rfl, g', rfl⟩
        rw [hw, ← run_snoc hi]
        (repeat' ((conv => whnf); (first | ((first | with_reducible refine spl (fun hc => ?_) (fun hc => ?_) | with_reducible refine spl' (fun hc => ?_) (fun hc => ?_)) <;> try (exfalso; omega)) | with_reducible refine imp_intro (fun hc => ?_) | refine vcq (k := ?_) | refine dr 1 (k := ?_) | refine dr 2 (k := ?_) | refine dr 3 (k := ?_) | refine dr 4 (k := ?_) | refine dr 5 (k := ?_) | refine dr 6 (k := ?_) | refine dr 7 (k := ?_) | refine dr 8 (k := ?_) | refine dr 9 (k := ?_) | refine dr 10 (k := ?_) | refine dr 11 (k := ?_) | refine dr 12 (k := ?_) | refine dr 1001 (k := ?_) | refine dr 1002 (k := ?_) | refine dr 1003 (k := ?_) | refine dr 1004 (k := ?_) | refine dr 1005 (k := ?_) | refine dr 1006 (k := ?_) | refine dr 1007 (k := ?_) | refine dr 1008 (k := ?_) | refine dr 1009 (k := ?_) | refine dr 1010 (k := ?_) | refine dr 1011 (k := ?_) | refine dr 1012 (k := ?_) | refine dr 1013 (k := ?_) | refine dr 1014 (k := ?_) | refine dr 1015 (k := ?_) | refine dr 1016 (k := ?_)))); all_goals (try conv => whnf); all_goals (try with_reducible exact trivial)
        refine ⟨(i + 1, g'), ⟨by dsimp only; omega, by dsimp only; omega⟩, some [some 0, some 1, some 2, some 3, some 4], ?_⟩
        (repeat' ((conv => whnf); (first | ((first | with_reducible refine spl (fun hc => ?_) (fun hc => ?_) | with_reducible refine spl' (fun hc => ?_) (fun hc => ?_)) <;> try (exfalso; omega)) | with_reducible refine imp_intro (fun hc => ?_) | refine vcq (k := ?_) | refine dr 1 (k := ?_) | refine dr 2 (k := ?_) | refine dr 3 (k := ?_) | refine dr 4 (k := ?_) | refine dr 5 (k := ?_) | refine dr 6 (k := ?_) | refine dr 7 (k := ?_) | refine dr 8 (k := ?_) | refine dr 9 (k := ?_) | refine dr 10 (k := ?_) | refine dr 11 (k := ?_) | refine dr 12 (k := ?_) | refine dr 1001 (k := ?_) | refine dr 1002 (k := ?_) | refine dr 1003 (k := ?_) | refine dr 1004 (k := ?_) | refine dr 1005 (k := ?_) | refine dr 1006 (k := ?_) | refine dr 1007 (k := ?_) | refine dr 1008 (k := ?_) | refine dr 1009 (k := ?_) | refine dr 1010 (k := ?_) | refine dr 1011 (k := ?_) | refine dr 1012 (k := ?_) | refine dr 1013 (k := ?_) | refine dr 1014 (k := ?_) | refine dr 1015 (k := ?_) | refine dr 1016 (k := ?_)))); all_goals (try conv => whnf); all_goals (try with_reducible exact trivial)
    · obtain rfl : i = l.length := by dsimp only at hc; omega
      refine ⟨_, _, ⟨g, rfl, rfl⟩, some [some 1, some 2, some 3, some 4], ?_⟩
      dsimp only
      rw [List.take_length]
      (repeat' ((conv => whnf); (first | ((first | with_reducible refine spl (fun hc => ?_) (fun hc => ?_) | with_reducible refine spl' (fun hc => ?_) (fun hc => ?_)) <;> try (exfalso; omega)) | with_reducible refine imp_intro (fun hc => ?_) | refine vcq (k := ?_) | refine dr 1 (k := ?_) | refine dr 2 (k := ?_) | refine dr 3 (k := ?_) | refine dr 4 (k := ?_) | refine dr 5 (k := ?_) | refine dr 6 (k := ?_) | refine dr 7 (k := ?_) | refine dr 8 (k := ?_) | refine dr 9 (k := ?_) | refine dr 10 (k := ?_) | refine dr 11 (k := ?_) | refine dr 12 (k := ?_) | refine dr 1001 (k := ?_) | refine dr 1002 (k := ?_) | refine dr 1003 (k := ?_) | refine dr 1004 (k := ?_) | refine dr 1005 (k := ?_) | refine dr 1006 (k := ?_) | refine dr 1007 (k := ?_) | refine dr 1008 (k := ?_) | refine dr 1009 (k := ?_) | refine dr 1010 (k := ?_) | refine dr 1011 (k := ?_) | refine dr 1012 (k := ?_) | refine dr 1013 (k := ?_) | refine dr 1014 (k := ?_) | refine dr 1015 (k := ?_) | refine dr 1016 (k := ?_)))); all_goals (try conv => whnf); all_goals (try with_reducible exact trivial)

theorem isBlock37 (b : Bands) (hb : b.Ok) (n : Int) : PureC Try.prog 37 false [b.v, .int .i64 n] (· = .prop (0 ≤ n ∧ n < b.N) inferInstance) := by
  have hNb := N_bounds hb
  have h1 : b.B * b.T * b.K = b.N := rfl
  refine pureC_of_exec Try.E_ok Try.func37 rfl (by kernel_rfl) ?_
  (repeat' ((conv => whnf); (first | ((first | with_reducible refine spl (fun hc => ?_) (fun hc => ?_) | with_reducible refine spl' (fun hc => ?_) (fun hc => ?_)) <;> try (exfalso; omega)) | with_reducible refine imp_intro (fun hc => ?_) | refine vcq (k := ?_) | refine dr 1 (k := ?_) | refine dr 2 (k := ?_) | refine dr 3 (k := ?_) | refine dr 4 (k := ?_) | refine dr 5 (k := ?_) | refine dr 6 (k := ?_) | refine dr 7 (k := ?_) | refine dr 8 (k := ?_) | refine dr 9 (k := ?_) | refine dr 10 (k := ?_) | refine dr 11 (k := ?_) | refine dr 12 (k := ?_) | refine dr 1001 (k := ?_) | refine dr 1002 (k := ?_) | refine dr 1003 (k := ?_) | refine dr 1004 (k := ?_) | refine dr 1005 (k := ?_) | refine dr 1006 (k := ?_) | refine dr 1007 (k := ?_) | refine dr 1008 (k := ?_) | refine dr 1009 (k := ?_) | refine dr 1010 (k := ?_) | refine dr 1011 (k := ?_) | refine dr 1012 (k := ?_) | refine dr 1013 (k := ?_) | refine dr 1014 (k := ?_) | refine dr 1015 (k := ?_) | refine dr 1016 (k := ?_)))); all_goals (try conv => whnf); all_goals (try with_reducible exact trivial)
  refine ⟨_, rfl, ?_⟩
  (repeat' ((conv => whnf); (first | ((first | with_reducible refine spl (fun hc => ?_) (fun hc => ?_) | with_reducible refine spl' (fun hc => ?_) (fun hc => ?_)) <;> try (exfalso; omega)) | with_reducible refine imp_intro (fun hc => ?_) | refine vcq (k := ?_) | refine dr 1 (k := ?_) | refine dr 2 (k := ?_) | refine dr 3 (k := ?_) | refine dr 4 (k := ?_) | refine dr 5 (k := ?_) | refine dr 6 (k := ?_) | refine dr 7 (k := ?_) | refine dr 8 (k := ?_) | refine dr 9 (k := ?_) | refine dr 10 (k := ?_) | refine dr 11 (k := ?_) | refine dr 12 (k := ?_) | refine dr 1001 (k := ?_) | refine dr 1002 (k := ?_) | refine dr 1003 (k := ?_) | refine dr 1004 (k := ?_) | refine dr 1005 (k := ?_) | refine dr 1006 (k := ?_) | refine dr 1007 (k := ?_) | refine dr 1008 (k := ?_) | refine dr 1009 (k := ?_) | refine dr 1010 (k := ?_) | refine dr 1011 (k := ?_) | refine dr 1012 (k := ?_) | refine dr 1013 (k := ?_) | refine dr 1014 (k := ?_) | refine dr 1015 (k := ?_) | refine dr 1016 (k := ?_)))); all_goals (try conv => whnf); all_goals (try with_reducible exact trivial)

/-- writes of some bands -/
def AreW (b : Bands) (l : List (Int × Int)) : Prop := ∀ w ∈ l, (0 ≤ w.1 ∧ w.1 < b.N) ∧ 0 ≤ w.2 ∧ w.2 ≤ 999

open Classical in
noncomputable def chk (b : Bands) (l : List (Int × Int)) : Int := if ¬ b.Ok then 90 else if 60 < l.length then 2 else if ¬ AreW b l then 91 else 0

def bA (b : Bands) (i : Nat) : Int := [b.B, b.T, b.K, b.C, b.L].getD i 0
def bM (i : Nat) : Int := [6, 6, 4, 12, 20].getD i 0

theorem ok_iff {b : Bands} : b.Ok ↔ ∀ i, i < 5 → 1 ≤ bA b i ∧ bA b i ≤ bM i := by
  constructor
  · rintro ⟨h1, h2, h3, h4, h5⟩ i hi
    match i, hi with
    | 0, _ => exact h1
    | 1, _ => exact h2
    | 2, _ => exact h3
    | 3, _ => exact h4
    | 4, _ => exact h5
  · intro h
    exact ⟨h 0 (by omega), h 1 (by omega), h 2 (by omega), h 3 (by omega), h 4 (by omega)⟩

theorem check28 (b : Bands) (l : List (Int × Int)) (hl : l.length ≤ 8000) : PureC Try.prog 28 false [b.v, .sl 2 l.length (rowOf wC (0, 0) l)] (· = .int .i64 (chk b l)) := by
  refine pureC_of_exec Try.E_ok Try.func28 rfl (by kernel_rfl) ?_
  (repeat' ((conv => whnf); (first | ((first | with_reducible refine spl (fun hc => ?_) (fun hc => ?_) | with_reducible refine spl' (fun hc => ?_) (fun hc => ?_)) <;> try (exfalso; omega)) | with_reducible refine imp_intro (fun hc => ?_) | refine vcq (k := ?_) | refine dr 1 (k := ?_) | refine dr 2 (k := ?_) | refine dr 3 (k := ?_) | refine dr 4 (k := ?_) | refine dr 5 (k := ?_) | refine dr 6 (k := ?_) | refine dr 7 (k := ?_) | refine dr 8 (k := ?_) | refine dr 9 (k := ?_) | refine dr 10 (k := ?_) | refine dr 11 (k := ?_) | refine dr 12 (k := ?_) | refine dr 1001 (k := ?_) | refine dr 1002 (k := ?_) | refine dr 1003 (k := ?_) | refine dr 1004 (k := ?_) | refine dr 1005 (k := ?_) | refine dr 1006 (k := ?_) | refine dr 1007 (k := ?_) | refine dr 1008 (k := ?_) | refine dr 1009 (k := ?_) | refine dr 1010 (k := ?_) | refine dr 1011 (k := ?_) | refine dr 1012 (k := ?_) | refine dr 1013 (k := ?_) | refine dr 1014 (k := ?_) | refine dr 1015 (k := ?_) | refine dr 1016 (k := ?_)))); all_goals (try conv => whnf); all_goals (try with_reducible exact trivial)
  refine ⟨Nat, fun i => i ≤ 5 ∧ ∀ k, k < i → 1 ≤ bA b k ∧ bA b k ≤ bM k, fun i => 5 - i, fun i => [(26, .int .i64 i)], fun _ => [(1, .row 82 2 5 (fun i => [.int .i64 (bA b i), .int .i64 (bM i)]) false)], fun _ => [], 0, ⟨⟨by omega, fun k hk => by omega⟩, some [some 0, some 1], ?_⟩, ?_⟩
  · (repeat' ((conv => whnf); (first | ((first | with_reducible refine spl (fun hc => ?_) (fun hc => ?_) | with_reducible refine spl' (fun hc => ?_) (fun hc => ?_)) <;> try (exfalso; omega)) | with_reducible refine imp_intro (fun hc => ?_) | refine vcq (k := ?_) | refine dr 1 (k := ?_) | refine dr 2 (k := ?_) | refine dr 3 (k := ?_) | refine dr 4 (k := ?_) | refine dr 5 (k := ?_) | refine dr 6 (k := ?_) | refine dr 7 (k := ?_) | refine dr 8 (k := ?_) | refine dr 9 (k := ?_) | refine dr 10 (k := ?_) | refine dr 11 (k := ?_) | refine dr 12 (k := ?_) | refine dr 1001 (k := ?_) | refine dr 1002 (k := ?_) | refine dr 1003 (k := ?_) | refine dr 1004 (k := ?_) | refine dr 1005 (k := ?_) | refine dr 1006 (k := ?_) | refine dr 1007 (k := ?_) | refine dr 1008 (k := ?_) | refine dr 1009 (k := ?_) | refine dr 1010 (k := ?_) | refine dr 1011 (k := ?_) | refine dr 1012 (k := ?_) | refine dr 1013 (k := ?_) | refine dr 1014 (k := ?_) | refine dr 1015 (k := ?_) | refine dr 1016 (k := ?_)))); all_goals (try conv => whnf); all_goals (try with_reducible exact trivial)
    refine ⟨fun i hi => ?_, ?_⟩
    · match i, hi with
      | 0, _ => rfl
      | 1, _ => rfl
      | 2, _ => rfl
      | 3, _ => rfl
      | 4, _ => rfl
    · (repeat' ((conv => whnf); (first | ((first | with_reducible refine spl (fun hc => ?_) (fun hc => ?_) | with_reducible refine spl' (fun hc => ?_) (fun hc => ?_)) <;> try (exfalso; omega)) | with_reducible refine imp_intro (fun hc => ?_) | refine vcq (k := ?_) | refine dr 1 (k := ?_) | refine dr 2 (k := ?_) | refine dr 3 (k := ?_) | refine dr 4 (k := ?_) | refine dr 5 (k := ?_) | refine dr 6 (k := ?_) | refine dr 7 (k := ?_) | refine dr 8 (k := ?_) | refine dr 9 (k := ?_) | refine dr 10 (k := ?_) | refine dr 11 (k := ?_) | refine dr 12 (k := ?_) | refine dr 1001 (k := ?_) | refine dr 1002 (k := ?_) | refine dr 1003 (k := ?_) | refine dr 1004 (k := ?_) | refine dr 1005 (k := ?_) | refine dr 1006 (k := ?_) | refine dr 1007 (k := ?_) | refine dr 1008 (k := ?_) | refine dr 1009 (k := ?_) | refine dr 1010 (k := ?_) | refine dr 1011 (k := ?_) | refine dr 1012 (k := ?_) | refine dr 1013 (k := ?_) | refine dr 1014 (k := ?_) | refine dr 1015 (k := ?_) | refine dr 1016 (k := ?_)))); all_goals (try conv => whnf); all_goals (try with_reducible exact trivial)
  · rintro i ⟨h1, h2⟩
    have hti : (i : Int).toNat = i := Int.toNat_natCast i
    (repeat' ((conv => whnf); (first | ((first | with_reducible refine spl (fun hc => ?_) (fun hc => ?_) | with_reducible refine spl' (fun hc => ?_) (fun hc => ?_)) <;> try (exfalso; omega)) | with_reducible refine imp_intro (fun hc => ?_) | refine vcq (k := ?_) | refine dr 1 (k := ?_) | refine dr 2 (k := ?_) | refine dr 3 (k := ?_) | refine dr 4 (k := ?_) | refine dr 5 (k := ?_) | refine dr 6 (k := ?_) | refine dr 7 (k := ?_) | refine dr 8 (k := ?_) | refine dr 9 (k := ?_) | refine dr 10 (k := ?_) | refine dr 11 (k := ?_) | refine dr 12 (k := ?_) | refine dr 1001 (k := ?_) | refine dr 1002 (k := ?_) | refine dr 1003 (k := ?_) | refine dr 1004 (k := ?_) | refine dr 1005 (k := ?_) | refine dr 1006 (k := ?_) | refine dr 1007 (k := ?_) | refine dr 1008 (k := ?_) | refine dr 1009 (k := ?_) | refine dr 1010 (k := ?_) | refine dr 1011 (k := ?_) | refine dr 1012 (k := ?_) | refine dr 1013 (k := ?_) | refine dr 1014 (k := ?_) | refine dr 1015 (k := ?_) | refine dr 1016 (k := ?_)))); all_goals (try conv => whnf); all_goals (try with_reducible exact trivial)
    · rw [hti] at hc
      have hno : ¬ b.Ok := fun h => by
        have := ok_iff.1 h i (by omega)
        omega
      refine ⟨_, rfl, ?_⟩
      unfold chk
      rw [if_pos hno]
      (repeat' ((conv => whnf); (first | ((first | with_reducible refine spl (fun hc => ?_) (fun hc => ?_) | with_reducible refine spl' (fun hc => ?_) (fun hc => ?_)) <;> try (exfalso; omega)) | with_reducible refine imp_intro (fun hc => ?_) | refine vcq (k := ?_) | refine dr 1 (k := ?_) | refine dr 2 (k := ?_) | refine dr 3 (k := ?_) | refine dr 4 (k := ?_) | refine dr 5 (k := ?_) | refine dr 6 (k := ?_) | refine dr 7 (k := ?_) | refine dr 8 (k := ?_) | refine dr 9 (k := ?_) | refine dr 10 (k := ?_) | refine dr 11 (k := ?_) | refine dr 12 (k := ?_) | refine dr 1001 (k := ?_) | refine dr 1002 (k := ?_) | refine dr 1003 (k := ?_) | refine dr 1004 (k := ?_) | refine dr 1005 (k := ?_) | refine dr 1006 (k := ?_) | refine dr 1007 (k := ?_) | refine dr 1008 (k := ?_) | refine dr 1009 (k := ?_) | refine dr 1010 (k := ?_) | refine dr 1011 (k := ?_) | refine dr 1012 (k := ?_) | refine dr 1013 (k := ?_) | refine dr 1014 (k := ?_) | refine dr 1015 (k := ?_) | refine dr 1016 (k := ?_)))); all_goals (try conv => whnf); all_goals (try with_reducible exact trivial)
    · rw [hti] at hc
      refine ⟨i + 1, ⟨⟨by omega, fun k hk => ?_⟩, by dsimp only; omega⟩, some [some 0, some 1], ?_⟩
      · rcases Nat.lt_or_eq_of_le (show k ≤ i by omega) with h | rfl
        · exact h2 k h
        · omega
      · (repeat' ((conv => whnf); (first | ((first | with_reducible refine spl (fun hc => ?_) (fun hc => ?_) | with_reducible refine spl' (fun hc => ?_) (fun hc => ?_)) <;> try (exfalso; omega)) | with_reducible refine imp_intro (fun hc => ?_) | refine vcq (k := ?_) | refine dr 1 (k := ?_) | refine dr 2 (k := ?_) | refine dr 3 (k := ?_) | refine dr 4 (k := ?_) | refine dr 5 (k := ?_) | refine dr 6 (k := ?_) | refine dr 7 (k := ?_) | refine dr 8 (k := ?_) | refine dr 9 (k := ?_) | refine dr 10 (k := ?_) | refine dr 11 (k := ?_) | refine dr 12 (k := ?_) | refine dr 1001 (k := ?_) | refine dr 1002 (k := ?_) | refine dr 1003 (k := ?_) | refine dr 1004 (k := ?_) | refine dr 1005 (k := ?_) | refine dr 1006 (k := ?_) | refine dr 1007 (k := ?_) | refine dr 1008 (k := ?_) | refine dr 1009 (k := ?_) | refine dr 1010 (k := ?_) | refine dr 1011 (k := ?_) | refine dr 1012 (k := ?_) | refine dr 1013 (k := ?_) | refine dr 1014 (k := ?_) | refine dr 1015 (k := ?_) | refine dr 1016 (k := ?_)))); all_goals (try conv => whnf); all_goals (try with_reducible exact trivial)
    · have hok : b.Ok := ok_iff.2 fun k hk => h2 k (by omega)
      refine ⟨_, rfl, ?_⟩
      unfold chk
      rw [if_neg (fun h => h hok), if_pos (by omega)]
      (repeat' ((conv => whnf); (first | ((first | with_reducible refine spl (fun hc => ?_) (fun hc => ?_) | with_reducible refine spl' (fun hc => ?_) (fun hc => ?_)) <;> try (exfalso; omega)) | with_reducible refine imp_intro (fun hc => ?_) | refine vcq (k := ?_) | refine dr 1 (k := ?_) | refine dr 2 (k := ?_) | refine dr 3 (k := ?_) | refine dr 4 (k := ?_) | refine dr 5 (k := ?_) | refine dr 6 (k := ?_) | refine dr 7 (k := ?_) | refine dr 8 (k := ?_) | refine dr 9 (k := ?_) | refine dr 10 (k := ?_) | refine dr 11 (k := ?_) | refine dr 12 (k := ?_) | refine dr 1001 (k := ?_) | refine dr 1002 (k := ?_) | refine dr 1003 (k := ?_) | refine dr 1004 (k := ?_) | refine dr 1005 (k := ?_) | refine dr 1006 (k := ?_) | refine dr 1007 (k := ?_) | refine dr 1008 (k := ?_) | refine dr 1009 (k := ?_) | refine dr 1010 (k := ?_) | refine dr 1011 (k := ?_) | refine dr 1012 (k := ?_) | refine dr 1013 (k := ?_) | refine dr 1014 (k := ?_) | refine dr 1015 (k := ?_) | refine dr 1016 (k := ?_)))); all_goals (try conv => whnf); all_goals (try with_reducible exact trivial)
    · have hok : b.Ok := ok_iff.2 fun k hk => h2 k (by omega)
      rename_i hi5
      have hlen := hc
      refine ⟨Nat, fun i => i ≤ l.length ∧ AreW b (l.take i), fun i => l.length - i, fun i => [(46, .int .i64 i)], fun _ => [], fun _ => [], 0, ⟨⟨by omega, fun w hw => by simp at hw⟩, some [some 0, some 1], ?_⟩, ?_⟩
      · (repeat' ((conv => whnf); (first | ((first | with_reducible refine spl (fun hc => ?_) (fun hc => ?_) | with_reducible refine spl' (fun hc => ?_) (fun hc => ?_)) <;> try (exfalso; omega)) | with_reducible refine imp_intro (fun hc => ?_) | refine vcq (k := ?_) | refine dr 1 (k := ?_) | refine dr 2 (k := ?_) | refine dr 3 (k := ?_) | refine dr 4 (k := ?_) | refine dr 5 (k := ?_) | refine dr 6 (k := ?_) | refine dr 7 (k := ?_) | refine dr 8 (k := ?_) | refine dr 9 (k := ?_) | refine dr 10 (k := ?_) | refine dr 11 (k := ?_) | refine dr 12 (k := ?_) | refine dr 1001 (k := ?_) | refine dr 1002 (k := ?_) | refine dr 1003 (k := ?_) | refine dr 1004 (k := ?_) | refine dr 1005 (k := ?_) | refine dr 1006 (k := ?_) | refine dr 1007 (k := ?_) | refine dr 1008 (k := ?_) | refine dr 1009 (k := ?_) | refine dr 1010 (k := ?_) | refine dr 1011 (k := ?_) | refine dr 1012 (k := ?_) | refine dr 1013 (k := ?_) | refine dr 1014 (k := ?_) | refine dr 1015 (k := ?_) | refine dr 1016 (k := ?_)))); all_goals (try conv => whnf); all_goals (try with_reducible exact trivial)
      · rintro i ⟨h1, h2⟩
        have hti : (i : Int).toNat = i := Int.toNat_natCast i
        (repeat' ((conv => whnf); (first | ((first | with_reducible refine spl (fun hc => ?_) (fun hc => ?_) | with_reducible refine spl' (fun hc => ?_) (fun hc => ?_)) <;> try (exfalso; omega)) | with_reducible refine imp_intro (fun hc => ?_) | refine vcq (k := ?_) | refine dr 1 (k := ?_) | refine dr 2 (k := ?_) | refine dr 3 (k := ?_) | refine dr 4 (k := ?_) | refine dr 5 (k := ?_) | refine dr 6 (k := ?_) | refine dr 7 (k := ?_) | refine dr 8 (k := ?_) | refine dr 9 (k := ?_) | refine dr 10 (k := ?_) | refine dr 11 (k := ?_) | refine dr 12 (k := ?_) | refine dr 1001 (k := ?_) | refine dr 1002 (k := ?_) | refine dr 1003 (k := ?_) | refine dr 1004 (k := ?_) | refine dr 1005 (k := ?_) | refine dr 1006 (k := ?_) | refine dr 1007 (k := ?_) | refine dr 1008 (k := ?_) | refine dr 1009 (k := ?_) | refine dr 1010 (k := ?_) | refine dr 1011 (k := ?_) | refine dr 1012 (k := ?_) | refine dr 1013 (k := ?_) | refine dr 1014 (k := ?_) | refine dr 1015 (k := ?_) | refine dr 1016 (k := ?_)))); all_goals (try conv => whnf); all_goals (try with_reducible exact trivial); (repeat' ((first | (refine callee_fo (isBlock37 b hok (l.getD (i : Int).toNat (0, 0)).1) rfl ?_; rintro _ rfl) | (refine pcall_intro (isBlock37 b hok (l.getD (i : Int).toNat (0, 0)).1) rfl ?_) | (refine pcall_soft (fun _ => isBlock37 b hok (l.getD (i : Int).toNat (0, 0)).1) rfl ?_)); (repeat' ((conv => whnf); (first | ((first | with_reducible refine spl (fun hc => ?_) (fun hc => ?_) | with_reducible refine spl' (fun hc => ?_) (fun hc => ?_)) <;> try (exfalso; omega)) | with_reducible refine imp_intro (fun hc => ?_) | refine vcq (k := ?_) | refine dr 1 (k := ?_) | refine dr 2 (k := ?_) | refine dr 3 (k := ?_) | refine dr 4 (k := ?_) | refine dr 5 (k := ?_) | refine dr 6 (k := ?_) | refine dr 7 (k := ?_) | refine dr 8 (k := ?_) | refine dr 9 (k := ?_) | refine dr 10 (k := ?_) | refine dr 11 (k := ?_) | refine dr 12 (k := ?_) | refine dr 1001 (k := ?_) | refine dr 1002 (k := ?_) | refine dr 1003 (k := ?_) | refine dr 1004 (k := ?_) | refine dr 1005 (k := ?_) | refine dr 1006 (k := ?_) | refine dr 1007 (k := ?_) | refine dr 1008 (k := ?_) | refine dr 1009 (k := ?_) | refine dr 1010 (k := ?_) | refine dr 1011 (k := ?_) | refine dr 1012 (k := ?_) | refine dr 1013 (k := ?_) | refine dr 1014 (k := ?_) | refine dr 1015 (k := ?_) | refine dr 1016 (k := ?_)))); all_goals (try conv => whnf); all_goals (try with_reducible exact trivial))); (all_goals (try (refine ⟨_, rfl, ?_⟩; (repeat' ((conv => whnf); (first | ((first | with_reducible refine spl (fun hc => ?_) (fun hc => ?_) | with_reducible refine spl' (fun hc => ?_) (fun hc => ?_)) <;> try (exfalso; omega)) | with_reducible refine imp_intro (fun hc => ?_) | refine vcq (k := ?_) | refine dr 1 (k := ?_) | refine dr 2 (k := ?_) | refine dr 3 (k := ?_) | refine dr 4 (k := ?_) | refine dr 5 (k := ?_) | refine dr 6 (k := ?_) | refine dr 7 (k := ?_) | refine dr 8 (k := ?_) | refine dr 9 (k := ?_) | refine dr 10 (k := ?_) | refine dr 11 (k := ?_) | refine dr 12 (k := ?_) | refine dr 1001 (k := ?_) | refine dr 1002 (k := ?_) | refine dr 1003 (k := ?_) | refine dr 1004 (k := ?_) | refine dr 1005 (k := ?_) | refine dr 1006 (k := ?_) | refine dr 1007 (k := ?_) | refine dr 1008 (k := ?_) | refine dr 1009 (k := ?_) | refine dr 1010 (k := ?_) | refine dr 1011 (k := ?_) | refine dr 1012 (k := ?_) | refine dr 1013 (k := ?_) | refine dr 1014 (k := ?_) | refine dr 1015 (k := ?_) | refine dr 1016 (k := ?_)))); all_goals (try conv => whnf); all_goals (try with_reducible exact trivial))))
        · rw [hti] at hc
          rename_i hlt
          have hi : i < l.length := by omega
          have hno : ¬ AreW b l := fun h => by
            have := h _ (getD_mem (d := (0, 0)) hi)
            omega
          refine ⟨?_, trivial⟩
          unfold chk
          rw [if_neg (fun h => h hok), if_neg (by omega), if_pos hno]
        · rw [hti] at hc
          rename_i hlt
          have hi : i < l.length := by omega
          refine ⟨i + 1, ⟨⟨by omega, fun w hw => ?_⟩, by dsimp only; omega⟩, some [some 0, some 1], ?_⟩
          · rw [take_succ_getD (0, 0) hi] at hw
            rcases List.mem_append.1 hw with hw | hw
            · exact h2 w hw
            · rw [List.mem_singleton.1 hw]
              omega
          · (repeat' ((conv => whnf); (first | ((first | with_reducible refine spl (fun hc => ?_) (fun hc => ?_) | with_reducible refine spl' (fun hc => ?_) (fun hc => ?_)) <;> try (exfalso; omega)) | with_reducible refine imp_intro (fun hc => ?_) | refine vcq (k := ?_) | refine dr 1 (k := ?_) | refine dr 2 (k := ?_) | refine dr 3 (k := ?_) | refine dr 4 (k := ?_) | refine dr 5 (k := ?_) | refine dr 6 (k := ?_) | refine dr 7 (k := ?_) | refine dr 8 (k := ?_) | refine dr 9 (k := ?_) | refine dr 10 (k := ?_) | refine dr 11 (k := ?_) | refine dr 12 (k := ?_) | refine dr 1001 (k := ?_) | refine dr 1002 (k := ?_) | refine dr 1003 (k := ?_) | refine dr 1004 (k := ?_) | refine dr 1005 (k := ?_) | refine dr 1006 (k := ?_) | refine dr 1007 (k := ?_) | refine dr 1008 (k := ?_) | refine dr 1009 (k := ?_) | refine dr 1010 (k := ?_) | refine dr 1011 (k := ?_) | refine dr 1012 (k := ?_) | refine dr 1013 (k := ?_) | refine dr 1014 (k := ?_) | refine dr 1015 (k := ?_) | refine dr 1016 (k := ?_)))); all_goals (try conv => whnf); all_goals (try with_reducible exact trivial)
        · obtain rfl : i = l.length := by omega
          rw [List.take_length] at h2
          refine ⟨?_, trivial⟩
          unfold chk
          rw [if_neg (fun h => h hok), if_neg (by omega), if_neg (fun h => h h2)]

theorem chk_ok {b : Bands} {l : List (Int × Int)} (h : chk b l = 0) : b.Ok ∧ l.length ≤ 60 ∧ AreW b l := by
  unfold chk at h
  split at h
  · simp at h
  · rename_i h1
    split at h
    · simp at h
    · rename_i h2
      split at h
      · simp at h
      · rename_i h3
        exact ⟨Classical.not_not.1 h1, by omega, Classical.not_not.1 h3⟩

theorem AreW.inB {b : Bands} {l : List (Int × Int)} (h : AreW b l) : InB b l := fun w hw => (h w hw).1

/-- what is read -/
def St.read (s : St) (n : Int) : Int := if n ∈ s.keys then look s.cch n else s.med n.toNat

open Classical in
noncomputable def rdRes (b : Bands) (l : List (Int × Int)) (n : Int) : Int × Int :=
  if chk b l ≠ 0 then (0, chk b l) else if ¬ (0 ≤ n ∧ n < b.N) then (0, 1) else ((St.run b l).read n, 0)

theorem read14 (b : Bands) (l : List (Int × Int)) (hl : l.length ≤ 8000) (n : Int) : PureC Try.prog 14 false [b.v, .sl 2 l.length (rowOf wC (0, 0) l), .int .i64 n] (· = .tup [.int .i64 (rdRes b l n).1, .int .i64 (rdRes b l n).2]) := by
  refine pureC_of_exec Try.E_ok Try.func14 rfl (by kernel_rfl) ?_
  (repeat' ((conv => whnf); (first | ((first | with_reducible refine spl (fun hc => ?_) (fun hc => ?_) | with_reducible refine spl' (fun hc => ?_) (fun hc => ?_)) <;> try (exfalso; omega)) | with_reducible refine imp_intro (fun hc => ?_) | refine vcq (k := ?_) | refine dr 1 (k := ?_) | refine dr 2 (k := ?_) | refine dr 3 (k := ?_) | refine dr 4 (k := ?_) | refine dr 5 (k := ?_) | refine dr 6 (k := ?_) | refine dr 7 (k := ?_) | refine dr 8 (k := ?_) | refine dr 9 (k := ?_) | refine dr 10 (k := ?_) | refine dr 11 (k := ?_) | refine dr 12 (k := ?_) | refine dr 1001 (k := ?_) | refine dr 1002 (k := ?_) | refine dr 1003 (k := ?_) | refine dr 1004 (k := ?_) | refine dr 1005 (k := ?_) | refine dr 1006 (k := ?_) | refine dr 1007 (k := ?_) | refine dr 1008 (k := ?_) | refine dr 1009 (k := ?_) | refine dr 1010 (k := ?_) | refine dr 1011 (k := ?_) | refine dr 1012 (k := ?_) | refine dr 1013 (k := ?_) | refine dr 1014 (k := ?_) | refine dr 1015 (k := ?_) | refine dr 1016 (k := ?_)))); all_goals (try conv => whnf); all_goals (try with_reducible exact trivial); (repeat' ((first | (refine callee_fo (check28 b l hl) rfl ?_; rintro _ rfl) | (refine pcall_intro (check28 b l hl) rfl ?_) | (refine pcall_soft (fun _ => check28 b l hl) rfl ?_)); (repeat' ((conv => whnf); (first | ((first | with_reducible refine spl (fun hc => ?_) (fun hc => ?_) | with_reducible refine spl' (fun hc => ?_) (fun hc => ?_)) <;> try (exfalso; omega)) | with_reducible refine imp_intro (fun hc => ?_) | refine vcq (k := ?_) | refine dr 1 (k := ?_) | refine dr 2 (k := ?_) | refine dr 3 (k := ?_) | refine dr 4 (k := ?_) | refine dr 5 (k := ?_) | refine dr 6 (k := ?_) | refine dr 7 (k := ?_) | refine dr 8 (k := ?_) | refine dr 9 (k := ?_) | refine dr 10 (k := ?_) | refine dr 11 (k := ?_) | refine dr 12 (k := ?_) | refine dr 1001 (k := ?_) | refine dr 1002 (k := ?_) | refine dr 1003 (k := ?_) | refine dr 1004 (k := ?_) | refine dr 1005 (k := ?_) | refine dr 1006 (k := ?_) | refine dr 1007 (k := ?_) | refine dr 1008 (k := ?_) | refine dr 1009 (k := ?_) | refine dr 1010 (k := ?_) | refine dr 1011 (k := ?_) | refine dr 1012 (k := ?_) | refine dr 1013 (k := ?_) | refine dr 1014 (k := ?_) | refine dr 1015 (k := ?_) | refine dr 1016 (k := ?_)))); all_goals (try conv => whnf); all_goals (try with_reducible exact trivial))); (all_goals (try (refine ⟨_, rfl, ?_⟩; (repeat' ((conv => whnf); (first | ((first | with_reducible refine spl (fun hc => ?_) (fun hc => ?_) | with_reducible refine spl' (fun hc => ?_) (fun hc => ?_)) <;> try (exfalso; omega)) | with_reducible refine imp_intro (fun hc => ?_) | refine vcq (k := ?_) | refine dr 1 (k := ?_) | refine dr 2 (k := ?_) | refine dr 3 (k := ?_) | refine dr 4 (k := ?_) | refine dr 5 (k := ?_) | refine dr 6 (k := ?_) | refine dr 7 (k := ?_) | refine dr 8 (k := ?_) | refine dr 9 (k := ?_) | refine dr 10 (k := ?_) | refine dr 11 (k := ?_) | refine dr 12 (k := ?_) | refine dr 1001 (k := ?_) | refine dr 1002 (k := ?_) | refine dr 1003 (k := ?_) | refine dr 1004 (k := ?_) | refine dr 1005 (k := ?_) | refine dr 1006 (k := ?_) | refine dr 1007 (k := ?_) | refine dr 1008 (k := ?_) | refine dr 1009 (k := ?_) | refine dr 1010 (k := ?_) | refine dr 1011 (k := ?_) | refine dr 1012 (k := ?_) | refine dr 1013 (k := ?_) | refine dr 1014 (k := ?_) | refine dr 1015 (k := ?_) | refine dr 1016 (k := ?_)))); all_goals (try conv => whnf); all_goals (try with_reducible exact trivial))))
  · unfold rdRes
    rw [if_pos hc]
    (repeat' ((conv => whnf); (first | ((first | with_reducible refine spl (fun hc => ?_) (fun hc => ?_) | with_reducible refine spl' (fun hc => ?_) (fun hc => ?_)) <;> try (exfalso; omega)) | with_reducible refine imp_intro (fun hc => ?_) | refine vcq (k := ?_) | refine dr 1 (k := ?_) | refine dr 2 (k := ?_) | refine dr 3 (k := ?_) | refine dr 4 (k := ?_) | refine dr 5 (k := ?_) | refine dr 6 (k := ?_) | refine dr 7 (k := ?_) | refine dr 8 (k := ?_) | refine dr 9 (k := ?_) | refine dr 10 (k := ?_) | refine dr 11 (k := ?_) | refine dr 12 (k := ?_) | refine dr 1001 (k := ?_) | refine dr 1002 (k := ?_) | refine dr 1003 (k := ?_) | refine dr 1004 (k := ?_) | refine dr 1005 (k := ?_) | refine dr 1006 (k := ?_) | refine dr 1007 (k := ?_) | refine dr 1008 (k := ?_) | refine dr 1009 (k := ?_) | refine dr 1010 (k := ?_) | refine dr 1011 (k := ?_) | refine dr 1012 (k := ?_) | refine dr 1013 (k := ?_) | refine dr 1014 (k := ?_) | refine dr 1015 (k := ?_) | refine dr 1016 (k := ?_)))); all_goals (try conv => whnf); all_goals (try with_reducible exact trivial)
  · obtain ⟨hb, h1, h2⟩ := chk_ok (Classical.not_not.1 hc)
    have hz := Classical.not_not.1 hc
    (repeat' ((conv => whnf); (first | ((first | with_reducible refine spl (fun hc => ?_) (fun hc => ?_) | with_reducible refine spl' (fun hc => ?_) (fun hc => ?_)) <;> try (exfalso; omega)) | with_reducible refine imp_intro (fun hc => ?_) | refine vcq (k := ?_) | refine dr 1 (k := ?_) | refine dr 2 (k := ?_) | refine dr 3 (k := ?_) | refine dr 4 (k := ?_) | refine dr 5 (k := ?_) | refine dr 6 (k := ?_) | refine dr 7 (k := ?_) | refine dr 8 (k := ?_) | refine dr 9 (k := ?_) | refine dr 10 (k := ?_) | refine dr 11 (k := ?_) | refine dr 12 (k := ?_) | refine dr 1001 (k := ?_) | refine dr 1002 (k := ?_) | refine dr 1003 (k := ?_) | refine dr 1004 (k := ?_) | refine dr 1005 (k := ?_) | refine dr 1006 (k := ?_) | refine dr 1007 (k := ?_) | refine dr 1008 (k := ?_) | refine dr 1009 (k := ?_) | refine dr 1010 (k := ?_) | refine dr 1011 (k := ?_) | refine dr 1012 (k := ?_) | refine dr 1013 (k := ?_) | refine dr 1014 (k := ?_) | refine dr 1015 (k := ?_) | refine dr 1016 (k := ?_)))); all_goals (try conv => whnf); all_goals (try with_reducible exact trivial); (repeat' ((first | (refine callee_fo (isBlock37 b hb n) rfl ?_; rintro _ rfl) | (refine pcall_intro (isBlock37 b hb n) rfl ?_) | (refine pcall_soft (fun _ => isBlock37 b hb n) rfl ?_)); (repeat' ((conv => whnf); (first | ((first | with_reducible refine spl (fun hc => ?_) (fun hc => ?_) | with_reducible refine spl' (fun hc => ?_) (fun hc => ?_)) <;> try (exfalso; omega)) | with_reducible refine imp_intro (fun hc => ?_) | refine vcq (k := ?_) | refine dr 1 (k := ?_) | refine dr 2 (k := ?_) | refine dr 3 (k := ?_) | refine dr 4 (k := ?_) | refine dr 5 (k := ?_) | refine dr 6 (k := ?_) | refine dr 7 (k := ?_) | refine dr 8 (k := ?_) | refine dr 9 (k := ?_) | refine dr 10 (k := ?_) | refine dr 11 (k := ?_) | refine dr 12 (k := ?_) | refine dr 1001 (k := ?_) | refine dr 1002 (k := ?_) | refine dr 1003 (k := ?_) | refine dr 1004 (k := ?_) | refine dr 1005 (k := ?_) | refine dr 1006 (k := ?_) | refine dr 1007 (k := ?_) | refine dr 1008 (k := ?_) | refine dr 1009 (k := ?_) | refine dr 1010 (k := ?_) | refine dr 1011 (k := ?_) | refine dr 1012 (k := ?_) | refine dr 1013 (k := ?_) | refine dr 1014 (k := ?_) | refine dr 1015 (k := ?_) | refine dr 1016 (k := ?_)))); all_goals (try conv => whnf); all_goals (try with_reducible exact trivial))); (all_goals (try (refine ⟨_, rfl, ?_⟩; (repeat' ((conv => whnf); (first | ((first | with_reducible refine spl (fun hc => ?_) (fun hc => ?_) | with_reducible refine spl' (fun hc => ?_) (fun hc => ?_)) <;> try (exfalso; omega)) | with_reducible refine imp_intro (fun hc => ?_) | refine vcq (k := ?_) | refine dr 1 (k := ?_) | refine dr 2 (k := ?_) | refine dr 3 (k := ?_) | refine dr 4 (k := ?_) | refine dr 5 (k := ?_) | refine dr 6 (k := ?_) | refine dr 7 (k := ?_) | refine dr 8 (k := ?_) | refine dr 9 (k := ?_) | refine dr 10 (k := ?_) | refine dr 11 (k := ?_) | refine dr 12 (k := ?_) | refine dr 1001 (k := ?_) | refine dr 1002 (k := ?_) | refine dr 1003 (k := ?_) | refine dr 1004 (k := ?_) | refine dr 1005 (k := ?_) | refine dr 1006 (k := ?_) | refine dr 1007 (k := ?_) | refine dr 1008 (k := ?_) | refine dr 1009 (k := ?_) | refine dr 1010 (k := ?_) | refine dr 1011 (k := ?_) | refine dr 1012 (k := ?_) | refine dr 1013 (k := ?_) | refine dr 1014 (k := ?_) | refine dr 1015 (k := ?_) | refine dr 1016 (k := ?_)))); all_goals (try conv => whnf); all_goals (try with_reducible exact trivial))))
    · unfold rdRes
      rw [if_neg (fun h => h hz), if_pos hc]
      (repeat' ((conv => whnf); (first | ((first | with_reducible refine spl (fun hc => ?_) (fun hc => ?_) | with_reducible refine spl' (fun hc => ?_) (fun hc => ?_)) <;> try (exfalso; omega)) | with_reducible refine imp_intro (fun hc => ?_) | refine vcq (k := ?_) | refine dr 1 (k := ?_) | refine dr 2 (k := ?_) | refine dr 3 (k := ?_) | refine dr 4 (k := ?_) | refine dr 5 (k := ?_) | refine dr 6 (k := ?_) | refine dr 7 (k := ?_) | refine dr 8 (k := ?_) | refine dr 9 (k := ?_) | refine dr 10 (k := ?_) | refine dr 11 (k := ?_) | refine dr 12 (k := ?_) | refine dr 1001 (k := ?_) | refine dr 1002 (k := ?_) | refine dr 1003 (k := ?_) | refine dr 1004 (k := ?_) | refine dr 1005 (k := ?_) | refine dr 1006 (k := ?_) | refine dr 1007 (k := ?_) | refine dr 1008 (k := ?_) | refine dr 1009 (k := ?_) | refine dr 1010 (k := ?_) | refine dr 1011 (k := ?_) | refine dr 1012 (k := ?_) | refine dr 1013 (k := ?_) | refine dr 1014 (k := ?_) | refine dr 1015 (k := ?_) | refine dr 1016 (k := ?_)))); all_goals (try conv => whnf); all_goals (try with_reducible exact trivial)
    · have hn := Classical.not_not.1 hc
      have hres : rdRes b l n = ((St.run b l).read n, 0) := by
        unfold rdRes
        rw [if_neg (fun h => h hz), if_neg hc]
      rw [hres]
      refine callee_new (run38 b hb l hl h2.inB) rfl ?_
      rintro _ _ ⟨g, rfl, rfl⟩
      (repeat' ((conv => whnf); (first | ((first | with_reducible refine spl (fun hc => ?_) (fun hc => ?_) | with_reducible refine spl' (fun hc => ?_) (fun hc => ?_)) <;> try (exfalso; omega)) | with_reducible refine imp_intro (fun hc => ?_) | refine vcq (k := ?_) | refine dr 1 (k := ?_) | refine dr 2 (k := ?_) | refine dr 3 (k := ?_) | refine dr 4 (k := ?_) | refine dr 5 (k := ?_) | refine dr 6 (k := ?_) | refine dr 7 (k := ?_) | refine dr 8 (k := ?_) | refine dr 9 (k := ?_) | refine dr 10 (k := ?_) | refine dr 11 (k := ?_) | refine dr 12 (k := ?_) | refine dr 1001 (k := ?_) | refine dr 1002 (k := ?_) | refine dr 1003 (k := ?_) | refine dr 1004 (k := ?_) | refine dr 1005 (k := ?_) | refine dr 1006 (k := ?_) | refine dr 1007 (k := ?_) | refine dr 1008 (k := ?_) | refine dr 1009 (k := ?_) | refine dr 1010 (k := ?_) | refine dr 1011 (k := ?_) | refine dr 1012 (k := ?_) | refine dr 1013 (k := ?_) | refine dr 1014 (k := ?_) | refine dr 1015 (k := ?_) | refine dr 1016 (k := ?_)))); all_goals (try conv => whnf); all_goals (try with_reducible exact trivial)
      · have hk : n ∈ (St.run b l).keys := hc
        refine ⟨_, rfl, ?_⟩
        unfold St.read
        rw [if_pos hk]
        (repeat' ((conv => whnf); (first | ((first | with_reducible refine spl (fun hc => ?_) (fun hc => ?_) | with_reducible refine spl' (fun hc => ?_) (fun hc => ?_)) <;> try (exfalso; omega)) | with_reducible refine imp_intro (fun hc => ?_) | refine vcq (k := ?_) | refine dr 1 (k := ?_) | refine dr 2 (k := ?_) | refine dr 3 (k := ?_) | refine dr 4 (k := ?_) | refine dr 5 (k := ?_) | refine dr 6 (k := ?_) | refine dr 7 (k := ?_) | refine dr 8 (k := ?_) | refine dr 9 (k := ?_) | refine dr 10 (k := ?_) | refine dr 11 (k := ?_) | refine dr 12 (k := ?_) | refine dr 1001 (k := ?_) | refine dr 1002 (k := ?_) | refine dr 1003 (k := ?_) | refine dr 1004 (k := ?_) | refine dr 1005 (k := ?_) | refine dr 1006 (k := ?_) | refine dr 1007 (k := ?_) | refine dr 1008 (k := ?_) | refine dr 1009 (k := ?_) | refine dr 1010 (k := ?_) | refine dr 1011 (k := ?_) | refine dr 1012 (k := ?_) | refine dr 1013 (k := ?_) | refine dr 1014 (k := ?_) | refine dr 1015 (k := ?_) | refine dr 1016 (k := ?_)))); all_goals (try conv => whnf); all_goals (try with_reducible exact trivial)
        refine ⟨if_pos hc, ?_⟩
        (repeat' ((conv => whnf); (first | ((first | with_reducible refine spl (fun hc => ?_) (fun hc => ?_) | with_reducible refine spl' (fun hc => ?_) (fun hc => ?_)) <;> try (exfalso; omega)) | with_reducible refine imp_intro (fun hc => ?_) | refine vcq (k := ?_) | refine dr 1 (k := ?_) | refine dr 2 (k := ?_) | refine dr 3 (k := ?_) | refine dr 4 (k := ?_) | refine dr 5 (k := ?_) | refine dr 6 (k := ?_) | refine dr 7 (k := ?_) | refine dr 8 (k := ?_) | refine dr 9 (k := ?_) | refine dr 10 (k := ?_) | refine dr 11 (k := ?_) | refine dr 12 (k := ?_) | refine dr 1001 (k := ?_) | refine dr 1002 (k := ?_) | refine dr 1003 (k := ?_) | refine dr 1004 (k := ?_) | refine dr 1005 (k := ?_) | refine dr 1006 (k := ?_) | refine dr 1007 (k := ?_) | refine dr 1008 (k := ?_) | refine dr 1009 (k := ?_) | refine dr 1010 (k := ?_) | refine dr 1011 (k := ?_) | refine dr 1012 (k := ?_) | refine dr 1013 (k := ?_) | refine dr 1014 (k := ?_) | refine dr 1015 (k := ?_) | refine dr 1016 (k := ?_)))); all_goals (try conv => whnf); all_goals (try with_reducible exact trivial)
      · have hk : ¬ n ∈ (St.run b l).keys := hc
        refine ⟨_, rfl, ?_⟩
        unfold St.read
        rw [if_neg hk]
        (repeat' ((conv => whnf); (first | ((first | with_reducible refine spl (fun hc => ?_) (fun hc => ?_) | with_reducible refine spl' (fun hc => ?_) (fun hc => ?_)) <;> try (exfalso; omega)) | with_reducible refine imp_intro (fun hc => ?_) | refine vcq (k := ?_) | refine dr 1 (k := ?_) | refine dr 2 (k := ?_) | refine dr 3 (k := ?_) | refine dr 4 (k := ?_) | refine dr 5 (k := ?_) | refine dr 6 (k := ?_) | refine dr 7 (k := ?_) | refine dr 8 (k := ?_) | refine dr 9 (k := ?_) | refine dr 10 (k := ?_) | refine dr 11 (k := ?_) | refine dr 12 (k := ?_) | refine dr 1001 (k := ?_) | refine dr 1002 (k := ?_) | refine dr 1003 (k := ?_) | refine dr 1004 (k := ?_) | refine dr 1005 (k := ?_) | refine dr 1006 (k := ?_) | refine dr 1007 (k := ?_) | refine dr 1008 (k := ?_) | refine dr 1009 (k := ?_) | refine dr 1010 (k := ?_) | refine dr 1011 (k := ?_) | refine dr 1012 (k := ?_) | refine dr 1013 (k := ?_) | refine dr 1014 (k := ?_) | refine dr 1015 (k := ?_) | refine dr 1016 (k := ?_)))); all_goals (try conv => whnf); all_goals (try with_reducible exact trivial)
end Go.Proofs


namespace Go.Proofs
open Go Go.Sx
set_option maxRecDepth 100000
set_option maxHeartbeats 4000000
-- SxAid2

def swapAt : Nat → List Int → List Int
  | 0, x :: y :: l => y :: x :: l
  | k + 1, x :: l => x :: swapAt k l
  | _, l => l

theorem swapAt_perm : ∀ (k : Nat) (l : List Int), (swapAt k l).Perm l
  | 0, [] => .refl _
  | 0, [_] => .refl _
  | 0, x :: y :: l => .swap x y l
  | _ + 1, [] => .refl _
  | k + 1, x :: l => (swapAt_perm k l).cons x

theorem swapAt_getD : ∀ (k : Nat) (l : List Int), k + 1 < l.length → ∀ i, (swapAt k l).getD i 0 = if i = k then l.getD (k + 1) 0 else if i = k + 1 then l.getD k 0 else l.getD i 0
  | 0, [], h, _ => by simp at h
  | 0, [_], h, _ => by simp at h
  | 0, x :: y :: l, _, i => by
    match i with
    | 0 => simp [swapAt]
    | 1 => simp [swapAt]
    | i + 2 => simp [swapAt]
  | k + 1, [], h, _ => by simp at h
  | k + 1, x :: l, h, i => by
    match i with
    | 0 => simp [swapAt]
    | i + 1 =>
      have := swapAt_getD k l (by simpa using h) i
      simp only [swapAt, List.getD_cons_succ]
      rw [this]
      simp

theorem less79 (x y : Int) : PureC Try.prog 79 false [.int .i64 x, .int .i64 y] (· = .prop (x < y) inferInstance) := by
  have h89 : ∀ z : Int, PureC Try.prog 89 false [.int .i64 z] (· = .prop (z ≠ z) inferInstance) := fun z => by
    refine pureC_of_exec Try.E_ok Try.func89 rfl (by kernel_rfl) ?_
    (repeat' ((conv => whnf); (first | ((first | with_reducible refine spl (fun hc => ?_) (fun hc => ?_) | with_reducible refine spl' (fun hc => ?_) (fun hc => ?_)) <;> try (exfalso; omega)) | with_reducible refine imp_intro (fun hc => ?_) | refine vcq (k := ?_) | refine dr 1 (k := ?_) | refine dr 2 (k := ?_) | refine dr 3 (k := ?_) | refine dr 4 (k := ?_) | refine dr 5 (k := ?_) | refine dr 6 (k := ?_) | refine dr 7 (k := ?_) | refine dr 8 (k := ?_) | refine dr 9 (k := ?_) | refine dr 10 (k := ?_) | refine dr 11 (k := ?_) | refine dr 12 (k := ?_) | refine dr 1001 (k := ?_) | refine dr 1002 (k := ?_) | refine dr 1003 (k := ?_) | refine dr 1004 (k := ?_) | refine dr 1005 (k := ?_) | refine dr 1006 (k := ?_) | refine dr 1007 (k := ?_) | refine dr 1008 (k := ?_) | refine dr 1009 (k := ?_) | refine dr 1010 (k := ?_) | refine dr 1011 (k := ?_) | refine dr 1012 (k := ?_) | refine dr 1013 (k := ?_) | refine dr 1014 (k := ?_) | refine dr 1015 (k := ?_) | refine dr 1016 (k := ?_)))); all_goals (try conv => whnf); all_goals (try with_reducible exact trivial)
    refine ⟨_, rfl, ?_⟩
    (repeat' ((conv => whnf); (first | ((first | with_reducible refine spl (fun hc => ?_) (fun hc => ?_) | with_reducible refine spl' (fun hc => ?_) (fun hc => ?_)) <;> try (exfalso; omega)) | with_reducible refine imp_intro (fun hc => ?_) | refine vcq (k := ?_) | refine dr 1 (k := ?_) | refine dr 2 (k := ?_) | refine dr 3 (k := ?_) | refine dr 4 (k := ?_) | refine dr 5 (k := ?_) | refine dr 6 (k := ?_) | refine dr 7 (k := ?_) | refine dr 8 (k := ?_) | refine dr 9 (k := ?_) | refine dr 10 (k := ?_) | refine dr 11 (k := ?_) | refine dr 12 (k := ?_) | refine dr 1001 (k := ?_) | refine dr 1002 (k := ?_) | refine dr 1003 (k := ?_) | refine dr 1004 (k := ?_) | refine dr 1005 (k := ?_) | refine dr 1006 (k := ?_) | refine dr 1007 (k := ?_) | refine dr 1008 (k := ?_) | refine dr 1009 (k := ?_) | refine dr 1010 (k := ?_) | refine dr 1011 (k := ?_) | refine dr 1012 (k := ?_) | refine dr 1013 (k := ?_) | refine dr 1014 (k := ?_) | refine dr 1015 (k := ?_) | refine dr 1016 (k := ?_)))); all_goals (try conv => whnf); all_goals (try with_reducible exact trivial)
  refine pureC_of_exec Try.E_ok Try.func79 rfl (by kernel_rfl) ?_
  (repeat' ((conv => whnf); (first | ((first | with_reducible refine spl (fun hc => ?_) (fun hc => ?_) | with_reducible refine spl' (fun hc => ?_) (fun hc => ?_)) <;> try (exfalso; omega)) | with_reducible refine imp_intro (fun hc => ?_) | refine vcq (k := ?_) | refine dr 1 (k := ?_) | refine dr 2 (k := ?_) | refine dr 3 (k := ?_) | refine dr 4 (k := ?_) | refine dr 5 (k := ?_) | refine dr 6 (k := ?_) | refine dr 7 (k := ?_) | refine dr 8 (k := ?_) | refine dr 9 (k := ?_) | refine dr 10 (k := ?_) | refine dr 11 (k := ?_) | refine dr 12 (k := ?_) | refine dr 1001 (k := ?_) | refine dr 1002 (k := ?_) | refine dr 1003 (k := ?_) | refine dr 1004 (k := ?_) | refine dr 1005 (k := ?_) | refine dr 1006 (k := ?_) | refine dr 1007 (k := ?_) | refine dr 1008 (k := ?_) | refine dr 1009 (k := ?_) | refine dr 1010 (k := ?_) | refine dr 1011 (k := ?_) | refine dr 1012 (k := ?_) | refine dr 1013 (k := ?_) | refine dr 1014 (k := ?_) | refine dr 1015 (k := ?_) | refine dr 1016 (k := ?_)))); all_goals (try conv => whnf); all_goals (try with_reducible exact trivial); (repeat' ((first | (refine callee_fo (h89 x) rfl ?_; rintro _ rfl) | (refine pcall_intro (h89 x) rfl ?_) | (refine pcall_soft (fun _ => h89 x) rfl ?_) | (refine callee_fo (h89 y) rfl ?_; rintro _ rfl) | (refine pcall_intro (h89 y) rfl ?_) | (refine pcall_soft (fun _ => h89 y) rfl ?_)); (repeat' ((conv => whnf); (first | ((first | with_reducible refine spl (fun hc => ?_) (fun hc => ?_) | with_reducible refine spl' (fun hc => ?_) (fun hc => ?_)) <;> try (exfalso; omega)) | with_reducible refine imp_intro (fun hc => ?_) | refine vcq (k := ?_) | refine dr 1 (k := ?_) | refine dr 2 (k := ?_) | refine dr 3 (k := ?_) | refine dr 4 (k := ?_) | refine dr 5 (k := ?_) | refine dr 6 (k := ?_) | refine dr 7 (k := ?_) | refine dr 8 (k := ?_) | refine dr 9 (k := ?_) | refine dr 10 (k := ?_) | refine dr 11 (k := ?_) | refine dr 12 (k := ?_) | refine dr 1001 (k := ?_) | refine dr 1002 (k := ?_) | refine dr 1003 (k := ?_) | refine dr 1004 (k := ?_) | refine dr 1005 (k := ?_) | refine dr 1006 (k := ?_) | refine dr 1007 (k := ?_) | refine dr 1008 (k := ?_) | refine dr 1009 (k := ?_) | refine dr 1010 (k := ?_) | refine dr 1011 (k := ?_) | refine dr 1012 (k := ?_) | refine dr 1013 (k := ?_) | refine dr 1014 (k := ?_) | refine dr 1015 (k := ?_) | refine dr 1016 (k := ?_)))); all_goals (try conv => whnf); all_goals (try with_reducible exact trivial))); (all_goals (try (refine ⟨_, rfl, ?_⟩; (repeat' ((conv => whnf); (first | ((first | with_reducible refine spl (fun hc => ?_) (fun hc => ?_) | with_reducible refine spl' (fun hc => ?_) (fun hc => ?_)) <;> try (exfalso; omega)) | with_reducible refine imp_intro (fun hc => ?_) | refine vcq (k := ?_) | refine dr 1 (k := ?_) | refine dr 2 (k := ?_) | refine dr 3 (k := ?_) | refine dr 4 (k := ?_) | refine dr 5 (k := ?_) | refine dr 6 (k := ?_) | refine dr 7 (k := ?_) | refine dr 8 (k := ?_) | refine dr 9 (k := ?_) | refine dr 10 (k := ?_) | refine dr 11 (k := ?_) | refine dr 12 (k := ?_) | refine dr 1001 (k := ?_) | refine dr 1002 (k := ?_) | refine dr 1003 (k := ?_) | refine dr 1004 (k := ?_) | refine dr 1005 (k := ?_) | refine dr 1006 (k := ?_) | refine dr 1007 (k := ?_) | refine dr 1008 (k := ?_) | refine dr 1009 (k := ?_) | refine dr 1010 (k := ?_) | refine dr 1011 (k := ?_) | refine dr 1012 (k := ?_) | refine dr 1013 (k := ?_) | refine dr 1014 (k := ?_) | refine dr 1015 (k := ?_) | refine dr 1016 (k := ?_)))); all_goals (try conv => whnf); all_goals (try with_reducible exact trivial))))

theorem isort73 (l : List Int) (hl : l.length ≤ 12) : Sx.Callee Try.prog 73 [.osl 0 l.length, .int .i64 0, .int .i64 l.length] [.row 3 1 l.length (rowOf intC 0 l) true]
    (fun r H => r = .tup [] ∧ ∃ m : List Int, m.Perm l ∧ (∀ p q, p < q → q < l.length → m.getD p 0 ≤ m.getD q 0) ∧ H = [.row 3 1 l.length (rowOf intC 0 m) true]) := by
  refine callee_ent Try.E_ok Try.func73 rfl (by kernel_rfl) ?_
  (repeat' ((conv => whnf); (first | ((first | with_reducible refine spl (fun hc => ?_) (fun hc => ?_) | with_reducible refine spl' (fun hc => ?_) (fun hc => ?_)) <;> try (exfalso; omega)) | with_reducible refine imp_intro (fun hc => ?_) | refine vcq (k := ?_) | refine dr 15 (k := ?_) | refine dr 2015 (k := ?_)))); all_goals (try conv => whnf); all_goals (try with_reducible exact trivial)
  refine ⟨Nat × List Int, fun i => i.2.Perm l ∧ 1 ≤ i.1 ∧ (i.1 ≤ l.length ∨ i.1 = 1) ∧ ∀ p q, p < q → q < i.1 → q < l.length → i.2.getD p 0 ≤ i.2.getD q 0, fun i => l.length - i.1, fun i => [(6, .int .i64 i.1)], fun i => [(0, .row 3 1 l.length (rowOf intC 0 i.2) true)], fun _ => [], (1, l), ⟨⟨.refl _, by simp, .inr rfl, fun p q h1 h2 _ => by dsimp only at h2; omega⟩, some [some 0], ?_⟩, ?_⟩
  · (repeat' ((conv => whnf); (first | ((first | with_reducible refine spl (fun hc => ?_) (fun hc => ?_) | with_reducible refine spl' (fun hc => ?_) (fun hc => ?_)) <;> try (exfalso; omega)) | with_reducible refine imp_intro (fun hc => ?_) | refine vcq (k := ?_) | refine dr 15 (k := ?_) | refine dr 2015 (k := ?_)))); all_goals (try conv => whnf); all_goals (try with_reducible exact trivial)
  · rintro ⟨i, m⟩ ⟨h1, h2, h3, h4⟩
    dsimp only at h1 h2 h3 h4
    (repeat' ((conv => whnf); (first | ((first | with_reducible refine spl (fun hc => ?_) (fun hc => ?_) | with_reducible refine spl' (fun hc => ?_) (fun hc => ?_)) <;> try (exfalso; omega)) | with_reducible refine imp_intro (fun hc => ?_) | refine vcq (k := ?_) | refine dr 15 (k := ?_) | refine dr 2015 (k := ?_)))); all_goals (try conv => whnf); all_goals (try with_reducible exact trivial)
    · have hi : i < l.length := by dsimp only at hc; omega
      refine ⟨Nat × List Int, fun j => j.2.Perm l ∧ j.1 ≤ i ∧ (∀ p q, p < q → q ≤ i → p ≠ j.1 → q ≠ j.1 → j.2.getD p 0 ≤ j.2.getD q 0) ∧ ∀ q, j.1 < q → q ≤ i → j.2.getD j.1 0 ≤ j.2.getD q 0, fun j => j.1, fun j => [(7, .int .i64 j.1)], fun j => [(0, .row 3 1 l.length (rowOf intC 0 j.2) true)], fun _ => [], (i, m), ⟨⟨h1, Nat.le_refl _, fun p q g1 g2 g3 g4 => ?_, fun q g1 g2 => ?_⟩, some [some 0], ?_⟩, ?_⟩
      · dsimp only at *
        exact h4 p q g1 (by omega) (by omega)
      · dsimp only at *
        omega
      · (repeat' ((conv => whnf); (first | ((first | with_reducible refine spl (fun hc => ?_) (fun hc => ?_) | with_reducible refine spl' (fun hc => ?_) (fun hc => ?_)) <;> try (exfalso; omega)) | with_reducible refine imp_intro (fun hc => ?_) | refine vcq (k := ?_) | refine dr 15 (k := ?_) | refine dr 2015 (k := ?_)))); all_goals (try conv => whnf); all_goals (try with_reducible exact trivial)
      · rintro ⟨j, n⟩ ⟨g1, g2, g3, g4⟩
        dsimp only at g1 g2 g3 g4
        have hnl : n.length = l.length := g1.length_eq
        (repeat' ((conv => whnf); (first | ((first | with_reducible refine spl (fun hc => ?_) (fun hc => ?_) | with_reducible refine spl' (fun hc => ?_) (fun hc => ?_)) <;> try (exfalso; omega)) | with_reducible refine imp_intro (fun hc => ?_) | refine vcq (k := ?_) | refine dr 15 (k := ?_) | refine dr 2015 (k := ?_)))); all_goals (try conv => whnf); all_goals (try with_reducible exact trivial)
        refine pcall_soft (fun _ => less79 _ _) rfl ?_
        have hti : (j : Int).toNat = j := Int.toNat_natCast j
        (repeat' ((conv => whnf); (first | ((first | with_reducible refine spl (fun hc => ?_) (fun hc => ?_) | with_reducible refine spl' (fun hc => ?_) (fun hc => ?_)) <;> try (exfalso; omega)) | with_reducible refine imp_intro (fun hc => ?_) | refine vcq (k := ?_) | refine dr 15 (k := ?_) | refine dr 2015 (k := ?_)))); all_goals (try conv => whnf); all_goals (try with_reducible exact trivial)
        · dsimp only at hc
          rw [hti] at hc
          have hj0 : 0 < j := by omega
          have e1 : ((j : Int) - 1).toNat = j - 1 := by omega
          rw [e1] at hc
          have hsw := swapAt_getD (j - 1) n (by omega)
          have e2 : j - 1 + 1 = j := by omega
          rw [e2] at hsw
          refine ⟨(j - 1, swapAt (j - 1) n), ⟨⟨(swapAt_perm _ _).trans g1, by dsimp only; omega, fun p q k1 k2 k3 k4 => ?_, fun q k1 k2 => ?_⟩, by dsimp only; omega⟩, some [some 0], ?_⟩
          · dsimp only at *
            rw [hsw p, hsw q, if_neg k3, if_neg k4]
            by_cases c1 : p = j
            · rw [if_pos c1, if_neg (by omega)]
              exact g3 (j - 1) q (by omega) k2 (by omega) (by omega)
            · rw [if_neg c1]
              by_cases c2 : q = j
              · rw [if_pos c2]
                exact g3 p (j - 1) (by omega) (by omega) c1 (by omega)
              · rw [if_neg c2]
                exact g3 p q k1 k2 c1 c2
          · dsimp only at *
            rw [hsw (j - 1), hsw q, if_pos rfl, if_neg (by omega)]
            by_cases c2 : q = j
            · rw [if_pos c2]; omega
            · rw [if_neg c2]
              exact g4 q (by omega) k2
          · (repeat' ((conv => whnf); (first | ((first | with_reducible refine spl (fun hc => ?_) (fun hc => ?_) | with_reducible refine spl' (fun hc => ?_) (fun hc => ?_)) <;> try (exfalso; omega)) | with_reducible refine imp_intro (fun hc => ?_) | refine vcq (k := ?_) | refine dr 15 (k := ?_) | refine dr 2015 (k := ?_)))); all_goals (try conv => whnf); all_goals (try with_reducible exact trivial)
            refine ⟨fun k _ => ?_, ?_⟩
            · dsimp only
              rw [hti, e1]
              unfold rowOf
              rw [hsw k]
              by_cases c1 : k = j - 1
              · rw [spliceP_pos c1, if_pos c1, spliceP_neg (show ¬ k = j by omega)]; rfl
              · rw [spliceP_neg c1, if_neg c1]
                by_cases c2 : k = j
                · rw [spliceP_pos c2, if_pos c2]; rfl
                · rw [spliceP_neg c2, if_neg c2]
            · (repeat' ((conv => whnf); (first | ((first | with_reducible refine spl (fun hc => ?_) (fun hc => ?_) | with_reducible refine spl' (fun hc => ?_) (fun hc => ?_)) <;> try (exfalso; omega)) | with_reducible refine imp_intro (fun hc => ?_) | refine vcq (k := ?_) | refine dr 15 (k := ?_) | refine dr 2015 (k := ?_)))); all_goals (try conv => whnf); all_goals (try with_reducible exact trivial)
        · dsimp only at hc
          rw [hti] at hc
          have hi : i < l.length := by omega
          refine ⟨(i + 1, n), ⟨⟨g1, by dsimp only; omega, by dsimp only; omega, fun p q k1 k2 k3 => ?_⟩, by dsimp only; omega⟩, some [some 0], ?_⟩
          · dsimp only at *
            by_cases c1 : p = j
            · subst c1; exact g4 q k1 (by omega)
            · by_cases c2 : q = j
              · subst c2
                have e1 : ((q : Int) - 1).toNat = q - 1 := by omega
                rw [e1] at hc
                have : n.getD (q - 1) 0 ≤ n.getD q 0 := by omega
                by_cases c3 : p = q - 1
                · rw [c3]; exact this
                · exact Int.le_trans (g3 p (q - 1) (by omega) (by omega) c1 (by omega)) this
              · exact g3 p q k1 (by omega) c1 c2
          · (repeat' ((conv => whnf); (first | ((first | with_reducible refine spl (fun hc => ?_) (fun hc => ?_) | with_reducible refine spl' (fun hc => ?_) (fun hc => ?_)) <;> try (exfalso; omega)) | with_reducible refine imp_intro (fun hc => ?_) | refine vcq (k := ?_) | refine dr 15 (k := ?_) | refine dr 2015 (k := ?_)))); all_goals (try conv => whnf); all_goals (try with_reducible exact trivial)
    · refine ⟨_, _, ⟨rfl, m, h1, fun p q g1 g2 => h4 p q g1 (by dsimp only at hc; omega) g2, rfl⟩, some [some 0], ?_⟩
      (repeat' ((conv => whnf); (first | ((first | with_reducible refine spl (fun hc => ?_) (fun hc => ?_) | with_reducible refine spl' (fun hc => ?_) (fun hc => ?_)) <;> try (exfalso; omega)) | with_reducible refine imp_intro (fun hc => ?_) | refine vcq (k := ?_) | refine dr 15 (k := ?_) | refine dr 2015 (k := ?_)))); all_goals (try conv => whnf); all_goals (try with_reducible exact trivial)

theorem byteAt_le (s : ByteArray) (i : Nat) : 0 ≤ byteAt s i ∧ byteAt s i ≤ 255 := by
  unfold byteAt
  cases s[i]? with
  | none => simp
  | some b =>
    simp only [Option.map_some, Option.getD_some]
    have := b.toNat_lt
    omega

theorem len72 (n : Nat) (h : n ≤ 12) : PureC Try.prog 72 false [.int .u64 n] (fun r => ∃ k : Int, r = .int .i64 k) := by
  refine pureC_of_exec Try.E_ok Try.func72 rfl (by kernel_rfl) ?_
  (repeat' ((conv => whnf); (first | ((first | with_reducible refine spl (fun hc => ?_) (fun hc => ?_) | with_reducible refine spl' (fun hc => ?_) (fun hc => ?_)) <;> try (exfalso; omega)) | with_reducible refine imp_intro (fun hc => ?_) | refine vcq (k := ?_) | refine dr 15 (k := ?_) | refine dr 2015 (k := ?_)))); all_goals (try conv => whnf); all_goals (try with_reducible exact trivial)
  refine callee_exec Try.E_ok Try.func83 rfl (by kernel_rfl) ?_
  (repeat' ((conv => whnf); (first | ((first | with_reducible refine spl (fun hc => ?_) (fun hc => ?_) | with_reducible refine spl' (fun hc => ?_) (fun hc => ?_)) <;> try (exfalso; omega)) | with_reducible refine imp_intro (fun hc => ?_) | refine vcq (k := ?_) | refine dr 15 (k := ?_) | refine dr 2015 (k := ?_)))); all_goals (try conv => whnf); all_goals (try with_reducible exact trivial)
  refine ⟨⟨by show (0 : Int) ≤ n; omega, by show (n : Int) ≤ 255; omega⟩, ?_⟩
  (repeat' ((conv => whnf); (first | ((first | with_reducible refine spl (fun hc => ?_) (fun hc => ?_) | with_reducible refine spl' (fun hc => ?_) (fun hc => ?_)) <;> try (exfalso; omega)) | with_reducible refine imp_intro (fun hc => ?_) | refine vcq (k := ?_) | refine dr 15 (k := ?_) | refine dr 2015 (k := ?_)))); all_goals (try conv => whnf); all_goals (try with_reducible exact trivial)
  refine ⟨⟨by omega, Int.lt_of_lt_of_le (show (n : Int) < 256 by omega) (by decide +kernel)⟩, ?_⟩
  generalize hby : byteAt _ _ = y
  have hy : 0 ≤ y ∧ y ≤ 255 := by rw [← hby]; exact byteAt_le _ _
  (repeat' ((conv => whnf); (first | ((first | with_reducible refine spl (fun hc => ?_) (fun hc => ?_) | with_reducible refine spl' (fun hc => ?_) (fun hc => ?_)) <;> try (exfalso; omega)) | with_reducible refine imp_intro (fun hc => ?_) | refine vcq (k := ?_) | refine dr 15 (k := ?_) | refine dr 2015 (k := ?_)))); all_goals (try conv => whnf); all_goals (try with_reducible exact trivial)
  exact ⟨_, ⟨_, rfl⟩, rfl, trivial⟩

theorem pdq71 (l : List Int) (hl : l.length ≤ 12) (k : Int) : Sx.Callee Try.prog 71 [.osl 0 l.length, .int .i64 0, .int .i64 l.length, .int .i64 k] [.row 3 1 l.length (rowOf intC 0 l) true]
    (fun r H => r = .tup [] ∧ ∃ m : List Int, m.Perm l ∧ (∀ p q, p < q → q < l.length → m.getD p 0 ≤ m.getD q 0) ∧ H = [.row 3 1 l.length (rowOf intC 0 m) true]) := by
  refine callee_ent Try.E_ok Try.func71 rfl (by kernel_rfl) ?_
  (repeat' ((conv => whnf); (first | ((first | with_reducible refine spl (fun hc => ?_) (fun hc => ?_) | with_reducible refine spl' (fun hc => ?_) (fun hc => ?_)) <;> try (exfalso; omega)) | with_reducible refine imp_intro (fun hc => ?_) | refine vcq (k := ?_) | refine dr 15 (k := ?_) | refine dr 2015 (k := ?_)))); all_goals (try conv => whnf); all_goals (try with_reducible exact trivial)
  refine ⟨Unit, fun _ => True, fun _ => 0, fun _ => [(1, .int .i64 0), (2, .int .i64 l.length), (3, .int .i64 k)], fun _ => [], fun _ => [], (), ⟨trivial, some [some 0], ?_⟩, ?_⟩
  · (repeat' ((conv => whnf); (first | ((first | with_reducible refine spl (fun hc => ?_) (fun hc => ?_) | with_reducible refine spl' (fun hc => ?_) (fun hc => ?_)) <;> try (exfalso; omega)) | with_reducible refine imp_intro (fun hc => ?_) | refine vcq (k := ?_) | refine dr 15 (k := ?_) | refine dr 2015 (k := ?_)))); all_goals (try conv => whnf); all_goals (try with_reducible exact trivial)
  · rintro ⟨⟩ _
    (repeat' ((conv => whnf); (first | ((first | with_reducible refine spl (fun hc => ?_) (fun hc => ?_) | with_reducible refine spl' (fun hc => ?_) (fun hc => ?_)) <;> try (exfalso; omega)) | with_reducible refine imp_intro (fun hc => ?_) | refine vcq (k := ?_) | refine dr 15 (k := ?_) | refine dr 2015 (k := ?_)))); all_goals (try conv => whnf); all_goals (try with_reducible exact trivial)
    refine callee_frame [0] (isort73 l hl) rfl ?_ ?_
    · (repeat' ((conv => whnf); (first | ((first | with_reducible refine spl (fun hc => ?_) (fun hc => ?_) | with_reducible refine spl' (fun hc => ?_) (fun hc => ?_)) <;> try (exfalso; omega)) | with_reducible refine imp_intro (fun hc => ?_) | refine vcq (k := ?_) | refine dr 15 (k := ?_) | refine dr 2015 (k := ?_)))); all_goals (try conv => whnf); all_goals (try with_reducible exact trivial)
    · rintro _ _ ⟨rfl, m, h1, h2, rfl⟩
      (repeat' ((conv => whnf); (first | ((first | with_reducible refine spl (fun hc => ?_) (fun hc => ?_) | with_reducible refine spl' (fun hc => ?_) (fun hc => ?_)) <;> try (exfalso; omega)) | with_reducible refine imp_intro (fun hc => ?_) | refine vcq (k := ?_) | refine dr 15 (k := ?_) | refine dr 2015 (k := ?_)))); all_goals (try conv => whnf); all_goals (try with_reducible exact trivial)
      refine ⟨_, _, ⟨rfl, m, h1, h2, rfl⟩, some [some 0], ?_⟩
      (repeat' ((conv => whnf); (first | ((first | with_reducible refine spl (fun hc => ?_) (fun hc => ?_) | with_reducible refine spl' (fun hc => ?_) (fun hc => ?_)) <;> try (exfalso; omega)) | with_reducible refine imp_intro (fun hc => ?_) | refine vcq (k := ?_) | refine dr 15 (k := ?_) | refine dr 2015 (k := ?_)))); all_goals (try conv => whnf); all_goals (try with_reducible exact trivial)

theorem sort67 (l : List Int) (hl : l.length ≤ 12) : Sx.Callee Try.prog 67 [.osl 0 l.length] [.row 3 1 l.length (rowOf intC 0 l) true]
    (fun r H => r = .tup [] ∧ ∃ m : List Int, m.Perm l ∧ (∀ p q, p < q → q < l.length → m.getD p 0 ≤ m.getD q 0) ∧ H = [.row 3 1 l.length (rowOf intC 0 m) true]) := by
  refine callee_ent Try.E_ok Try.func67 rfl (by kernel_rfl) ?_
  (repeat' ((conv => whnf); (first | ((first | with_reducible refine spl (fun hc => ?_) (fun hc => ?_) | with_reducible refine spl' (fun hc => ?_) (fun hc => ?_)) <;> try (exfalso; omega)) | with_reducible refine imp_intro (fun hc => ?_) | refine vcq (k := ?_) | refine dr 15 (k := ?_) | refine dr 2015 (k := ?_)))); all_goals (try conv => whnf); all_goals (try with_reducible exact trivial)
  refine ⟨⟨by show (0 : Int) ≤ l.length; omega, by show (l.length : Int) ≤ 18446744073709551615; omega⟩, ?_⟩
  (repeat' ((conv => whnf); (first | ((first | with_reducible refine spl (fun hc => ?_) (fun hc => ?_) | with_reducible refine spl' (fun hc => ?_) (fun hc => ?_)) <;> try (exfalso; omega)) | with_reducible refine imp_intro (fun hc => ?_) | refine vcq (k := ?_) | refine dr 15 (k := ?_) | refine dr 2015 (k := ?_)))); all_goals (try conv => whnf); all_goals (try with_reducible exact trivial)
  refine callee_fo (len72 l.length hl) rfl ?_
  rintro _ ⟨k, rfl⟩
  (repeat' ((conv => whnf); (first | ((first | with_reducible refine spl (fun hc => ?_) (fun hc => ?_) | with_reducible refine spl' (fun hc => ?_) (fun hc => ?_)) <;> try (exfalso; omega)) | with_reducible refine imp_intro (fun hc => ?_) | refine vcq (k := ?_) | refine dr 15 (k := ?_) | refine dr 2015 (k := ?_)))); all_goals (try conv => whnf); all_goals (try with_reducible exact trivial)
  refine callee_frame [0] (pdq71 l hl k) rfl ?_ ?_
  · (repeat' ((conv => whnf); (first | ((first | with_reducible refine spl (fun hc => ?_) (fun hc => ?_) | with_reducible refine spl' (fun hc => ?_) (fun hc => ?_)) <;> try (exfalso; omega)) | with_reducible refine imp_intro (fun hc => ?_) | refine vcq (k := ?_) | refine dr 15 (k := ?_) | refine dr 2015 (k := ?_)))); all_goals (try conv => whnf); all_goals (try with_reducible exact trivial)
  · rintro _ _ ⟨rfl, m, h1, h2, rfl⟩
    (repeat' ((conv => whnf); (first | ((first | with_reducible refine spl (fun hc => ?_) (fun hc => ?_) | with_reducible refine spl' (fun hc => ?_) (fun hc => ?_)) <;> try (exfalso; omega)) | with_reducible refine imp_intro (fun hc => ?_) | refine vcq (k := ?_) | refine dr 15 (k := ?_) | refine dr 2015 (k := ?_)))); all_goals (try conv => whnf); all_goals (try with_reducible exact trivial)
    refine ⟨_, _, ⟨rfl, m, h1, h2, rfl⟩, some [some 0], ?_⟩
    (repeat' ((conv => whnf); (first | ((first | with_reducible refine spl (fun hc => ?_) (fun hc => ?_) | with_reducible refine spl' (fun hc => ?_) (fun hc => ?_)) <;> try (exfalso; omega)) | with_reducible refine imp_intro (fun hc => ?_) | refine vcq (k := ?_) | refine dr 15 (k := ?_) | refine dr 2015 (k := ?_)))); all_goals (try conv => whnf); all_goals (try with_reducible exact trivial)

theorem sorted_unique : ∀ (m l : List Int), m.Perm l → m.Pairwise (· ≤ ·) → l.Pairwise (· < ·) → m = l
  | [], l, h, _, _ => (List.nil_perm.1 h).symm
  | x :: m, [], h, _, _ => absurd h.length_eq (by simp)
  | x :: m, y :: l, h, h1, h2 => by
    have p1 := List.pairwise_cons.1 h1
    have p2 := List.pairwise_cons.1 h2
    have hxy : x = y := by
      have hx : x ∈ y :: l := h.mem_iff.1 List.mem_cons_self
      have hy : y ∈ x :: m := h.mem_iff.2 List.mem_cons_self
      rcases List.mem_cons.1 hx with h | hx
      · exact h
      · rcases List.mem_cons.1 hy with h | hy
        · exact h.symm
        · have := p1.1 y hy
          have := p2.1 x hx
          omega
    subst hxy
    rw [sorted_unique m l (List.Perm.cons_inv h) p1.2 p2.2]

theorem pairwise_of_getD {m : List Int} (h : ∀ p q, p < q → q < m.length → m.getD p 0 ≤ m.getD q 0) : m.Pairwise (· ≤ ·) := by
  rw [List.pairwise_iff_getElem]
  intro i j hi hj hij
  have := h i j hij hj
  rwa [List.getD_eq_getElem?_getD, List.getElem?_eq_getElem hi, List.getD_eq_getElem?_getD, List.getElem?_eq_getElem hj] at this

theorem Asc.keys_lt {l : List (Int × Int)} (h : Asc l) : (l.map Prod.fst).Pairwise (· < ·) := by
  rw [List.pairwise_map]; exact h

theorem sorted50 (l : List (Int × Int)) (hl : l.length ≤ 12) (ha : Asc l) (g : MG) : Sx.Callee Try.prog 50 [.fn (.func 68) [] [.ptr 1 0]] [.map [.i64] false false (domOf l) (valOf l) l.length g, .cells 68 [.map 0]]
    (fun r H => r = .sl 1 (l.map Prod.fst).length (rowOf intC 0 (l.map Prod.fst)) ∧ H = [.map [.i64] false false (domOf l) (valOf l) l.length g, .cells 68 [.map 0]]) := by
  refine callee_ent Try.E_ok Try.func50 rfl (by kernel_rfl) ?_
  (repeat' ((conv => whnf); (first | ((first | with_reducible refine spl (fun hc => ?_) (fun hc => ?_) | with_reducible refine spl' (fun hc => ?_) (fun hc => ?_)) <;> try (exfalso; omega)) | with_reducible refine imp_intro (fun hc => ?_) | refine vcq (k := ?_) | refine dr 15 (k := ?_) | refine dr 2015 (k := ?_)))); all_goals (try conv => whnf); all_goals (try with_reducible exact trivial)
  refine callee_exec Try.E_ok Try.func66 rfl (by kernel_rfl) ?_
  (repeat' ((conv => whnf); (first | ((first | with_reducible refine spl (fun hc => ?_) (fun hc => ?_) | with_reducible refine spl' (fun hc => ?_) (fun hc => ?_)) <;> try (exfalso; omega)) | with_reducible refine imp_intro (fun hc => ?_) | refine vcq (k := ?_) | refine dr 15 (k := ?_) | refine dr 2015 (k := ?_)))); all_goals (try conv => whnf); all_goals (try with_reducible exact trivial)
  refine callee_exec Try.E_ok Try.func70 rfl (by kernel_rfl) ?_
  (repeat' ((conv => whnf); (first | ((first | with_reducible refine spl (fun hc => ?_) (fun hc => ?_) | with_reducible refine spl' (fun hc => ?_) (fun hc => ?_)) <;> try (exfalso; omega)) | with_reducible refine imp_intro (fun hc => ?_) | refine vcq (k := ?_) | refine dr 15 (k := ?_) | refine dr 2015 (k := ?_)))); all_goals (try conv => whnf); all_goals (try with_reducible exact trivial)
  refine callee_exec Try.E_ok Try.func68 rfl (by kernel_rfl) ?_
  (repeat' ((conv => whnf); (first | ((first | with_reducible refine spl (fun hc => ?_) (fun hc => ?_) | with_reducible refine spl' (fun hc => ?_) (fun hc => ?_)) <;> try (exfalso; omega)) | with_reducible refine imp_intro (fun hc => ?_) | refine vcq (k := ?_) | refine dr 15 (k := ?_) | refine dr 2015 (k := ?_)))); all_goals (try conv => whnf); all_goals (try with_reducible exact trivial)
  refine ⟨List Int, fun ks => ks.Nodup ∧ ∀ n ∈ ks, n ∈ l.map Prod.fst, fun ks => l.length - ks.length, fun _ => [], fun ks => [(2, .cells 35 [.osl 5 ks.length]), (4, .iter 0 g (fun k => domOf l k ∧ k.length = [IntKind.i64].length) (ks.map fun n => [n]))], fun ks => [.row 3 1 ks.length (rowOf intC 0 ks.reverse) true], [], ⟨⟨List.nodup_nil, by simp⟩, some [some 0, some 1, some 2, some 3, some 4, none], ?_⟩, ?_⟩
  · (repeat' ((conv => whnf); (first | ((first | with_reducible refine spl (fun hc => ?_) (fun hc => ?_) | with_reducible refine spl' (fun hc => ?_) (fun hc => ?_)) <;> try (exfalso; omega)) | with_reducible refine imp_intro (fun hc => ?_) | refine vcq (k := ?_) | refine dr 15 (k := ?_) | refine dr 2015 (k := ?_)))); all_goals (try conv => whnf); all_goals (try with_reducible exact trivial)
  · rintro ks ⟨h1, h2⟩
    (repeat' ((conv => whnf); (first | ((first | with_reducible refine spl (fun hc => ?_) (fun hc => ?_) | with_reducible refine spl' (fun hc => ?_) (fun hc => ?_)) <;> try (exfalso; omega)) | with_reducible refine imp_intro (fun hc => ?_) | refine vcq (k := ?_) | refine dr 15 (k := ?_) | refine dr 2015 (k := ?_)))); all_goals (try conv => whnf); all_goals (try with_reducible exact trivial)
    refine ⟨fun k hk hd => ⟨hd, hk⟩, ?_, ?_⟩
    · intro x hx hnew _
      have hx : x ∈ l.map Prod.fst := hx
      have hnk : x ∉ ks := fun h => hnew (List.mem_map.2 ⟨x, h, rfl⟩)
      have hnd : (x :: ks).Nodup := List.nodup_cons.2 ⟨hnk, h1⟩
      have hsub : ∀ n ∈ x :: ks, n ∈ l.map Prod.fst := fun n hn => by
        rcases List.mem_cons.1 hn with rfl | hn
        · exact hx
        · exact h2 n hn
      have hlt := nodup_length_le hnd hsub
      simp only [List.length_cons, List.length_map] at hlt
      (repeat' ((conv => whnf); (first | ((first | with_reducible refine spl (fun hc => ?_) (fun hc => ?_) | with_reducible refine spl' (fun hc => ?_) (fun hc => ?_)) <;> try (exfalso; omega)) | with_reducible refine imp_intro (fun hc => ?_) | refine vcq (k := ?_) | refine dr 15 (k := ?_) | refine dr 2015 (k := ?_)))); all_goals (try conv => whnf); all_goals (try with_reducible exact trivial)
      refine ⟨⟨rfl, hx, rfl⟩, ?_⟩
      (repeat' ((conv => whnf); (first | ((first | with_reducible refine spl (fun hc => ?_) (fun hc => ?_) | with_reducible refine spl' (fun hc => ?_) (fun hc => ?_)) <;> try (exfalso; omega)) | with_reducible refine imp_intro (fun hc => ?_) | refine vcq (k := ?_) | refine dr 15 (k := ?_) | refine dr 2015 (k := ?_)))); all_goals (try conv => whnf); all_goals (try with_reducible exact trivial)
      refine ycall_exec Try.E_ok rfl rfl rfl ?_
      (repeat' ((conv => whnf); (first | ((first | with_reducible refine spl (fun hc => ?_) (fun hc => ?_) | with_reducible refine spl' (fun hc => ?_) (fun hc => ?_)) <;> try (exfalso; omega)) | with_reducible refine imp_intro (fun hc => ?_) | refine vcq (k := ?_) | refine dr 15 (k := ?_) | refine dr 2015 (k := ?_)))); all_goals (try conv => whnf); all_goals (try with_reducible exact trivial)
      refine ⟨x :: ks, ⟨⟨hnd, hsub⟩, by simp only [List.length_cons]; omega⟩, some [some 0, some 1, some 2, some 3, some 4, some 7], ?_⟩
      (repeat' ((conv => whnf); (first | ((first | with_reducible refine spl (fun hc => ?_) (fun hc => ?_) | with_reducible refine spl' (fun hc => ?_) (fun hc => ?_)) <;> try (exfalso; omega)) | with_reducible refine imp_intro (fun hc => ?_) | refine vcq (k := ?_) | refine dr 15 (k := ?_) | refine dr 2015 (k := ?_)))); all_goals (try conv => whnf); all_goals (try with_reducible exact trivial)
      refine ⟨fun i hi => ?_, ?_⟩
      · rw [List.reverse_cons]
        exact rowOf_snoc (c := intC) (a := x) (by simp) (fun _ _ => rfl) i hi
      · (repeat' ((conv => whnf); (first | ((first | with_reducible refine spl (fun hc => ?_) (fun hc => ?_) | with_reducible refine spl' (fun hc => ?_) (fun hc => ?_)) <;> try (exfalso; omega)) | with_reducible refine imp_intro (fun hc => ?_) | refine vcq (k := ?_) | refine dr 15 (k := ?_) | refine dr 2015 (k := ?_)))); all_goals (try conv => whnf); all_goals (try with_reducible exact trivial)
    · intro hall
      have hperm : ks.reverse.Perm (l.map Prod.fst) := (List.reverse_perm ks).trans ((List.perm_ext_iff_of_nodup h1 ha.keys_nodup).2 fun n => ⟨h2 n, fun hn => by
        obtain ⟨m, hm, he⟩ := List.mem_map.1 (hall n hn)
        simp only [List.cons.injEq, and_true] at he
        rwa [← he]⟩)
      have hlen : ks.reverse.length = l.length := by have := hperm.length_eq; simpa using this
      have hlen2 : ks.length = ks.reverse.length := by simp
      (repeat' ((conv => whnf); (first | ((first | with_reducible refine spl (fun hc => ?_) (fun hc => ?_) | with_reducible refine spl' (fun hc => ?_) (fun hc => ?_)) <;> try (exfalso; omega)) | with_reducible refine imp_intro (fun hc => ?_) | refine vcq (k := ?_) | refine dr 15 (k := ?_) | refine dr 2015 (k := ?_)))); all_goals (try conv => whnf); all_goals (try with_reducible exact trivial)
      rw [hlen2]
      refine callee_frame [5] (sort67 ks.reverse (by omega)) rfl ?_ ?_
      · (repeat' ((conv => whnf); (first | ((first | with_reducible refine spl (fun hc => ?_) (fun hc => ?_) | with_reducible refine spl' (fun hc => ?_) (fun hc => ?_)) <;> try (exfalso; omega)) | with_reducible refine imp_intro (fun hc => ?_) | refine vcq (k := ?_) | refine dr 15 (k := ?_) | refine dr 2015 (k := ?_)))); all_goals (try conv => whnf); all_goals (try with_reducible exact trivial)
      · rintro _ _ ⟨rfl, m, g1, g2, rfl⟩
        have hml : m = l.map Prod.fst := sorted_unique m _ (g1.trans hperm) (pairwise_of_getD (fun p q hp hq => g2 p q hp (by have := g1.length_eq; omega))) ha.keys_lt
        subst hml
        have hk : ks.reverse.length = (l.map Prod.fst).length := g1.length_eq.symm
        rw [hk]
        (repeat' ((conv => whnf); (first | ((first | with_reducible refine spl (fun hc => ?_) (fun hc => ?_) | with_reducible refine spl' (fun hc => ?_) (fun hc => ?_)) <;> try (exfalso; omega)) | with_reducible refine imp_intro (fun hc => ?_) | refine vcq (k := ?_) | refine dr 15 (k := ?_) | refine dr 2015 (k := ?_)))); all_goals (try conv => whnf); all_goals (try with_reducible exact trivial)
        refine ⟨_, _, ⟨rfl, rfl⟩, some [some 0, some 1], ?_⟩
        (repeat' ((conv => whnf); (first | ((first | with_reducible refine spl (fun hc => ?_) (fun hc => ?_) | with_reducible refine spl' (fun hc => ?_) (fun hc => ?_)) <;> try (exfalso; omega)) | with_reducible refine imp_intro (fun hc => ?_) | refine vcq (k := ?_) | refine dr 15 (k := ?_) | refine dr 2015 (k := ?_)))); all_goals (try conv => whnf); all_goals (try with_reducible exact trivial)
end Go.Proofs


namespace Go.Proofs
open Go Go.Sx
set_option maxRecDepth 100000
set_option maxHeartbeats 4000000
-- SxAid2

theorem look_getD {l : List (Int × Int)} (h : Asc l) : ∀ {i : Nat}, i < l.length → look l (l.getD i (0, 0)).1 = (l.getD i (0, 0)).2 := by
  induction l with
  | nil => intro i hi; simp at hi
  | cons x l ih =>
    intro i hi
    have h1 := List.pairwise_cons.1 h
    cases i with
    | zero => simp [look]
    | succ i =>
      have hi : i < l.length := by simpa using hi
      have hlt := h1.1 _ (getD_mem (d := (0, 0)) hi)
      have e : (x.1 == (l.getD i (0, 0)).1) = false := by simp only [beq_eq_false_iff_ne, ne_eq]; omega
      rw [List.getD_cons_succ]
      unfold look
      rw [List.find?_cons, e]
      exact ih h1.2 hi

theorem state39 (b : Bands) (hb : b.Ok) (s : St) (hs : s.Ok b) (g : MG) : Sx.Callee Try.prog 39 [.ptr 0 0] (s.heap b g)
    (fun r H => H = [s.o0 b, s.o1 b, s.o2 b, s.o3 g, .row 42 2 s.cch.length (rowOf wC (0, 0) s.cch) true] ∧ r = .agg [.osl 1 b.N.toNat, .osl 4 s.cch.length, .osl 2 b.B.toNat, .int .i64 s.cost, .int .i64 s.cleaned, .int .i64 s.refreshed]) := by
  have hC := hb.C
  have hl : s.cch.length ≤ 12 := by have := hs.len; omega
  refine callee_ent Try.E_ok Try.func39 rfl (by kernel_rfl) ?_
  (repeat' ((conv => whnf); (first | ((first | with_reducible refine spl (fun hc => ?_) (fun hc => ?_) | with_reducible refine spl' (fun hc => ?_) (fun hc => ?_)) <;> try (exfalso; omega)) | with_reducible refine imp_intro (fun hc => ?_) | refine vcq (k := ?_) | refine dr 11 (k := ?_)))); all_goals (try conv => whnf); all_goals (try with_reducible exact trivial)
  refine callee_exec Try.E_ok Try.func51 rfl (by kernel_rfl) ?_
  (repeat' ((conv => whnf); (first | ((first | with_reducible refine spl (fun hc => ?_) (fun hc => ?_) | with_reducible refine spl' (fun hc => ?_) (fun hc => ?_)) <;> try (exfalso; omega)) | with_reducible refine imp_intro (fun hc => ?_) | refine vcq (k := ?_) | refine dr 11 (k := ?_)))); all_goals (try conv => whnf); all_goals (try with_reducible exact trivial)
  refine callee_frame [3, 6] (sorted50 s.cch hl hs.asc g) rfl ?_ ?_
  · (repeat' ((conv => whnf); (first | ((first | with_reducible refine spl (fun hc => ?_) (fun hc => ?_) | with_reducible refine spl' (fun hc => ?_) (fun hc => ?_)) <;> try (exfalso; omega)) | with_reducible refine imp_intro (fun hc => ?_) | refine vcq (k := ?_) | refine dr 11 (k := ?_)))); all_goals (try conv => whnf); all_goals (try with_reducible exact trivial)
  · rintro _ _ ⟨rfl, rfl⟩
    have hml : (s.cch.map Prod.fst).length = s.cch.length := by simp
    rw [hml]
    (repeat' ((conv => whnf); (first | ((first | with_reducible refine spl (fun hc => ?_) (fun hc => ?_) | with_reducible refine spl' (fun hc => ?_) (fun hc => ?_)) <;> try (exfalso; omega)) | with_reducible refine imp_intro (fun hc => ?_) | refine vcq (k := ?_) | refine dr 11 (k := ?_)))); all_goals (try conv => whnf); all_goals (try with_reducible exact trivial)
    refine ⟨Nat, fun i => i ≤ s.cch.length, fun i => s.cch.length - i, fun i => [(17, .int .i64 i)], fun i => [(5, .cells 37 [.osl 1 b.N.toNat, .osl 7 i, .osl 2 b.B.toNat, .int .i64 s.cost, .int .i64 s.cleaned, .int .i64 s.refreshed])], fun i => [.row 42 2 i (rowOf wC (0, 0) (s.cch.take i)) true], 0, ⟨by omega, some [some 0, some 1, some 2, some 3, some 4, some 5, some 6, none], ?_⟩, ?_⟩
    · (repeat' ((conv => whnf); (first | ((first | with_reducible refine spl (fun hc => ?_) (fun hc => ?_) | with_reducible refine spl' (fun hc => ?_) (fun hc => ?_)) <;> try (exfalso; omega)) | with_reducible refine imp_intro (fun hc => ?_) | refine vcq (k := ?_) | refine dr 11 (k := ?_)))); all_goals (try conv => whnf); all_goals (try with_reducible exact trivial)
    · intro i h1
      have hti : (i : Int).toNat = i := Int.toNat_natCast i
      (repeat' ((conv => whnf); (first | ((first | with_reducible refine spl (fun hc => ?_) (fun hc => ?_) | with_reducible refine spl' (fun hc => ?_) (fun hc => ?_)) <;> try (exfalso; omega)) | with_reducible refine imp_intro (fun hc => ?_) | refine vcq (k := ?_) | refine dr 11 (k := ?_)))); all_goals (try conv => whnf); all_goals (try with_reducible exact trivial)
      · have hi : i < s.cch.length := by omega
        refine ⟨i + 1, ⟨by omega, by dsimp only; omega⟩, some [some 0, some 1, some 2, some 3, some 4, some 5, some 6, some 9], ?_⟩
        (repeat' ((conv => whnf); (first | ((first | with_reducible refine spl (fun hc => ?_) (fun hc => ?_) | with_reducible refine spl' (fun hc => ?_) (fun hc => ?_)) <;> try (exfalso; omega)) | with_reducible refine imp_intro (fun hc => ?_) | refine vcq (k := ?_) | refine dr 11 (k := ?_)))); all_goals (try conv => whnf); all_goals (try with_reducible exact trivial)
        refine ⟨fun k hk => ?_, ?_⟩
        · rw [hti]
          have e1 : (s.cch.map Prod.fst).getD i 0 = (s.cch.getD i (0, 0)).1 := by
            simp [List.getD_eq_getElem?_getD, List.getElem?_map, List.getElem?_eq_getElem hi]
          have e2 : domOf s.cch [(s.cch.getD i (0, 0)).1] := List.mem_map.2 ⟨_, getD_mem hi, rfl⟩
          have e3 := look_getD hs.asc hi
          rw [e1, if_pos e2, List.headD_cons, e3, take_succ_getD (0, 0) hi]
          exact rowOf_snoc (c := wC) (a := s.cch.getD i (0, 0)) (by rw [List.length_take]; omega) (fun _ _ => rfl) k hk
        · (repeat' ((conv => whnf); (first | ((first | with_reducible refine spl (fun hc => ?_) (fun hc => ?_) | with_reducible refine spl' (fun hc => ?_) (fun hc => ?_)) <;> try (exfalso; omega)) | with_reducible refine imp_intro (fun hc => ?_) | refine vcq (k := ?_) | refine dr 11 (k := ?_)))); all_goals (try conv => whnf); all_goals (try with_reducible exact trivial)
      · obtain rfl : i = s.cch.length := by omega
        rw [List.take_length]
        refine ⟨_, _, ⟨rfl, rfl⟩, some [some 0, some 1, some 2, some 3, some 7], ?_⟩
        (repeat' ((conv => whnf); (first | ((first | with_reducible refine spl (fun hc => ?_) (fun hc => ?_) | with_reducible refine spl' (fun hc => ?_) (fun hc => ?_)) <;> try (exfalso; omega)) | with_reducible refine imp_intro (fun hc => ?_) | refine vcq (k := ?_) | refine dr 11 (k := ?_)))); all_goals (try conv => whnf); all_goals (try with_reducible exact trivial)

/-- a state in memory -/
def stV (n m : Nat) (s : St) : V := .agg [.sl 1 n (fun j => [.int .i64 (s.med j)]), .sl 2 s.cch.length (rowOf wC (0, 0) s.cch), .sl 1 m (fun j => [.int .i64 (s.cnt j)]), .int .i64 s.cost, .int .i64 s.cleaned, .int .i64 s.refreshed]

open Classical in
noncomputable def resN (b : Bands) (l : List (Int × Int)) : Nat := if chk b l = 0 then b.N.toNat else 0
open Classical in
noncomputable def resB (b : Bands) (l : List (Int × Int)) : Nat := if chk b l = 0 then b.B.toNat else 0
open Classical in
noncomputable def resR (b : Bands) (l : List (Int × Int)) : St := if chk b l = 0 then St.run b l else St.begin

theorem run16 (b : Bands) (l : List (Int × Int)) (hl : l.length ≤ 8000) : PureC Try.prog 16 false [b.v, .sl 2 l.length (rowOf wC (0, 0) l)] (· = .tup [stV (resN b l) (resB b l) (resR b l), .int .i64 (chk b l)]) := by
  refine pureC_of_exec Try.E_ok Try.func16 rfl (by kernel_rfl) ?_
  (repeat' ((conv => whnf); (first | ((first | with_reducible refine spl (fun hc => ?_) (fun hc => ?_) | with_reducible refine spl' (fun hc => ?_) (fun hc => ?_)) <;> try (exfalso; omega)) | with_reducible refine imp_intro (fun hc => ?_) | refine vcq (k := ?_) | refine dr 11 (k := ?_)))); all_goals (try conv => whnf); all_goals (try with_reducible exact trivial)
  refine callee_fo (check28 b l hl) rfl ?_
  rintro _ rfl
  (repeat' ((conv => whnf); (first | ((first | with_reducible refine spl (fun hc => ?_) (fun hc => ?_) | with_reducible refine spl' (fun hc => ?_) (fun hc => ?_)) <;> try (exfalso; omega)) | with_reducible refine imp_intro (fun hc => ?_) | refine vcq (k := ?_) | refine dr 11 (k := ?_)))); all_goals (try conv => whnf); all_goals (try with_reducible exact trivial)
  · unfold resN resB resR
    rw [if_neg hc, if_neg hc, if_neg hc]
    refine ⟨_, rfl, ?_⟩
    (repeat' ((conv => whnf); (first | ((first | with_reducible refine spl (fun hc => ?_) (fun hc => ?_) | with_reducible refine spl' (fun hc => ?_) (fun hc => ?_)) <;> try (exfalso; omega)) | with_reducible refine imp_intro (fun hc => ?_) | refine vcq (k := ?_) | refine dr 11 (k := ?_)))); all_goals (try conv => whnf); all_goals (try with_reducible exact trivial)
  · have hz := Classical.not_not.1 hc
    obtain ⟨hb, h1, h2⟩ := chk_ok hz
    obtain ⟨o1, o2⟩ := run_ok hb h2.inB
    unfold resN resB resR
    rw [if_pos hz, if_pos hz, if_pos hz]
    refine callee_new (run38 b hb l hl h2.inB) rfl ?_
    rintro _ _ ⟨g, rfl, rfl⟩
    (repeat' ((conv => whnf); (first | ((first | with_reducible refine spl (fun hc => ?_) (fun hc => ?_) | with_reducible refine spl' (fun hc => ?_) (fun hc => ?_)) <;> try (exfalso; omega)) | with_reducible refine imp_intro (fun hc => ?_) | refine vcq (k := ?_) | refine dr 11 (k := ?_)))); all_goals (try conv => whnf); all_goals (try with_reducible exact trivial)
    refine callee_frame [2, 3, 4, 5] (state39 b hb _ o1 g) rfl ?_ ?_
    · (repeat' ((conv => whnf); (first | ((first | with_reducible refine spl (fun hc => ?_) (fun hc => ?_) | with_reducible refine spl' (fun hc => ?_) (fun hc => ?_)) <;> try (exfalso; omega)) | with_reducible refine imp_intro (fun hc => ?_) | refine vcq (k := ?_) | refine dr 11 (k := ?_)))); all_goals (try conv => whnf); all_goals (try with_reducible exact trivial)
    · rintro _ _ ⟨rfl, rfl⟩
      (repeat' ((conv => whnf); (first | ((first | with_reducible refine spl (fun hc => ?_) (fun hc => ?_) | with_reducible refine spl' (fun hc => ?_) (fun hc => ?_)) <;> try (exfalso; omega)) | with_reducible refine imp_intro (fun hc => ?_) | refine vcq (k := ?_) | refine dr 11 (k := ?_)))); all_goals (try conv => whnf); all_goals (try with_reducible exact trivial)
      refine ⟨_, rfl, ?_⟩
      (repeat' ((conv => whnf); (first | ((first | with_reducible refine spl (fun hc => ?_) (fun hc => ?_) | with_reducible refine spl' (fun hc => ?_) (fun hc => ?_)) <;> try (exfalso; omega)) | with_reducible refine imp_intro (fun hc => ?_) | refine vcq (k := ?_) | refine dr 11 (k := ?_)))); all_goals (try conv => whnf); all_goals (try with_reducible exact trivial)
end Go.Proofs


namespace Go.Proofs
open Go Go.Sx
set_option maxRecDepth 100000
set_option maxHeartbeats 4000000
-- SxAid2

theorem lowest_filter {b : Bands} {band band' : Int} (h : band' ≠ band) : ∀ ks : List Int, b.lowest band' (ks.filter (fun n => !(b.bd n == band))) = b.lowest band' ks
  | [] => rfl
  | x :: ks => by
    have ih := lowest_filter (b := b) h ks
    by_cases hx : b.bd x = band
    · rw [List.filter_cons_of_neg (by simp [hx]), ih]
      simp only [Bands.lowest]
      rw [if_neg (by omega)]
    · rw [List.filter_cons_of_pos (by simp [hx])]
      simp only [Bands.lowest, ih]

theorem clean_keys {b : Bands} {s : St} {band : Int} : (s.clean b band).keys = s.keys.filter (fun n => !(b.bd n == band)) := by
  unfold St.keys
  rw [clean_cch]
  induction s.cch with
  | nil => rfl
  | cons x l ih =>
    by_cases hx : b.bd x.1 = band
    · rw [List.filter_cons_of_neg (by simp [hx]), ih, List.map_cons, List.filter_cons_of_neg (by simp [hx])]
    · rw [List.filter_cons_of_pos (by simp [hx]), List.map_cons, ih, List.map_cons, List.filter_cons_of_pos (by simp [hx])]

/-- all bands with blocks in the cache are cleaned -/
def St.flush (b : Bands) (s : St) : St := (b.jobs s.keys).foldl (fun s j => s.clean b j.1) s

theorem jobs_mem {b : Bands} {ks : List Int} {j : Job} (h : j ∈ b.jobs ks) : ∃ i : Nat, (i : Int) < b.B ∧ b.slots i ks ≠ 0 ∧ j = ((i : Int), b.costOf ks i, b.slots i ks) := by
  obtain ⟨h1, h2⟩ := List.mem_filter.1 h
  obtain ⟨i, hi, rfl⟩ := List.mem_map.1 h1
  have hs := has_jobOf.1 h2
  refine ⟨i, by have := List.mem_range.1 hi; omega, hs, ?_⟩
  unfold Bands.jobOf
  rw [if_neg hs]

theorem jobs_distinct {b : Bands} {ks : List Int} : (b.jobs ks).Pairwise (fun j j' => j.1 ≠ j'.1) := by
  unfold Bands.jobs
  rw [List.filter_map, List.pairwise_map]
  have h0 : (List.range b.B.toNat).Pairwise (fun i j => i < j) := List.pairwise_lt_range
  refine List.Pairwise.imp_of_mem ?_ (h0.filter _)
  intro i j hi hj hij
  have hi' := has_jobOf.1 (List.mem_filter.1 hi).2
  have hj' := has_jobOf.1 (List.mem_filter.1 hj).2
  unfold Bands.jobOf
  simp only [hi', hj', if_false]
  omega

theorem drop_getD {α : Type} {l : List α} (d : α) {i : Nat} (h : i < l.length) : l.drop i = l.getD i d :: l.drop (i + 1) := by
  rw [List.drop_eq_getElem_cons h, List.getD_eq_getElem?_getD, List.getElem?_eq_getElem h]
  rfl

open Classical in
noncomputable def resF (b : Bands) (l : List (Int × Int)) : St := if chk b l = 0 then (St.run b l).flush b else St.begin

theorem flush17 (b : Bands) (l : List (Int × Int)) (hl : l.length ≤ 8000) : PureC Try.prog 17 false [b.v, .sl 2 l.length (rowOf wC (0, 0) l)] (· = .tup [stV (resN b l) (resB b l) (resF b l), .int .i64 (chk b l)]) := by
  refine pureC_of_exec Try.E_ok Try.func17 rfl (by kernel_rfl) ?_
  (repeat' ((conv => whnf); (first | ((first | with_reducible refine spl (fun hc => ?_) (fun hc => ?_) | with_reducible refine spl' (fun hc => ?_) (fun hc => ?_)) <;> try (exfalso; omega)) | with_reducible refine imp_intro (fun hc => ?_) | refine vcq (k := ?_) | refine dr 1 (k := ?_) | refine dr 2 (k := ?_) | refine dr 3 (k := ?_) | refine dr 4 (k := ?_) | refine dr 5 (k := ?_) | refine dr 6 (k := ?_) | refine dr 7 (k := ?_) | refine dr 8 (k := ?_) | refine dr 9 (k := ?_) | refine dr 10 (k := ?_) | refine dr 11 (k := ?_) | refine dr 12 (k := ?_) | refine dr 1001 (k := ?_) | refine dr 1002 (k := ?_) | refine dr 1003 (k := ?_) | refine dr 1004 (k := ?_) | refine dr 1005 (k := ?_) | refine dr 1006 (k := ?_) | refine dr 1007 (k := ?_) | refine dr 1008 (k := ?_) | refine dr 1009 (k := ?_) | refine dr 1010 (k := ?_) | refine dr 1011 (k := ?_) | refine dr 1012 (k := ?_) | refine dr 1013 (k := ?_) | refine dr 1014 (k := ?_) | refine dr 1015 (k := ?_) | refine dr 1016 (k := ?_)))); all_goals (try conv => whnf); all_goals (try with_reducible exact trivial)
  refine callee_fo (check28 b l hl) rfl ?_
  rintro _ rfl
  (repeat' ((conv => whnf); (first | ((first | with_reducible refine spl (fun hc => ?_) (fun hc => ?_) | with_reducible refine spl' (fun hc => ?_) (fun hc => ?_)) <;> try (exfalso; omega)) | with_reducible refine imp_intro (fun hc => ?_) | refine vcq (k := ?_) | refine dr 1 (k := ?_) | refine dr 2 (k := ?_) | refine dr 3 (k := ?_) | refine dr 4 (k := ?_) | refine dr 5 (k := ?_) | refine dr 6 (k := ?_) | refine dr 7 (k := ?_) | refine dr 8 (k := ?_) | refine dr 9 (k := ?_) | refine dr 10 (k := ?_) | refine dr 11 (k := ?_) | refine dr 12 (k := ?_) | refine dr 1001 (k := ?_) | refine dr 1002 (k := ?_) | refine dr 1003 (k := ?_) | refine dr 1004 (k := ?_) | refine dr 1005 (k := ?_) | refine dr 1006 (k := ?_) | refine dr 1007 (k := ?_) | refine dr 1008 (k := ?_) | refine dr 1009 (k := ?_) | refine dr 1010 (k := ?_) | refine dr 1011 (k := ?_) | refine dr 1012 (k := ?_) | refine dr 1013 (k := ?_) | refine dr 1014 (k := ?_) | refine dr 1015 (k := ?_) | refine dr 1016 (k := ?_)))); all_goals (try conv => whnf); all_goals (try with_reducible exact trivial)
  · unfold resN resB resF
    rw [if_neg hc, if_neg hc, if_neg hc]
    refine ⟨_, rfl, ?_⟩
    (repeat' ((conv => whnf); (first | ((first | with_reducible refine spl (fun hc => ?_) (fun hc => ?_) | with_reducible refine spl' (fun hc => ?_) (fun hc => ?_)) <;> try (exfalso; omega)) | with_reducible refine imp_intro (fun hc => ?_) | refine vcq (k := ?_) | refine dr 1 (k := ?_) | refine dr 2 (k := ?_) | refine dr 3 (k := ?_) | refine dr 4 (k := ?_) | refine dr 5 (k := ?_) | refine dr 6 (k := ?_) | refine dr 7 (k := ?_) | refine dr 8 (k := ?_) | refine dr 9 (k := ?_) | refine dr 10 (k := ?_) | refine dr 11 (k := ?_) | refine dr 12 (k := ?_) | refine dr 1001 (k := ?_) | refine dr 1002 (k := ?_) | refine dr 1003 (k := ?_) | refine dr 1004 (k := ?_) | refine dr 1005 (k := ?_) | refine dr 1006 (k := ?_) | refine dr 1007 (k := ?_) | refine dr 1008 (k := ?_) | refine dr 1009 (k := ?_) | refine dr 1010 (k := ?_) | refine dr 1011 (k := ?_) | refine dr 1012 (k := ?_) | refine dr 1013 (k := ?_) | refine dr 1014 (k := ?_) | refine dr 1015 (k := ?_) | refine dr 1016 (k := ?_)))); all_goals (try conv => whnf); all_goals (try with_reducible exact trivial)
  · have hz := Classical.not_not.1 hc
    obtain ⟨hb, h1, h2⟩ := chk_ok hz
    obtain ⟨o1, o2⟩ := run_ok hb h2.inB
    have hB := hb.B
    unfold resN resB resF
    rw [if_pos hz, if_pos hz, if_pos hz]
    refine callee_new (run38 b hb l hl h2.inB) rfl ?_
    rintro _ _ ⟨g, rfl, rfl⟩
    (repeat' ((conv => whnf); (first | ((first | with_reducible refine spl (fun hc => ?_) (fun hc => ?_) | with_reducible refine spl' (fun hc => ?_) (fun hc => ?_)) <;> try (exfalso; omega)) | with_reducible refine imp_intro (fun hc => ?_) | refine vcq (k := ?_) | refine dr 1 (k := ?_) | refine dr 2 (k := ?_) | refine dr 3 (k := ?_) | refine dr 4 (k := ?_) | refine dr 5 (k := ?_) | refine dr 6 (k := ?_) | refine dr 7 (k := ?_) | refine dr 8 (k := ?_) | refine dr 9 (k := ?_) | refine dr 10 (k := ?_) | refine dr 11 (k := ?_) | refine dr 12 (k := ?_) | refine dr 1001 (k := ?_) | refine dr 1002 (k := ?_) | refine dr 1003 (k := ?_) | refine dr 1004 (k := ?_) | refine dr 1005 (k := ?_) | refine dr 1006 (k := ?_) | refine dr 1007 (k := ?_) | refine dr 1008 (k := ?_) | refine dr 1009 (k := ?_) | refine dr 1010 (k := ?_) | refine dr 1011 (k := ?_) | refine dr 1012 (k := ?_) | refine dr 1013 (k := ?_) | refine dr 1014 (k := ?_) | refine dr 1015 (k := ?_) | refine dr 1016 (k := ?_)))); all_goals (try conv => whnf); all_goals (try with_reducible exact trivial)
    refine callee_frame [2, 3, 4, 5] (jobs40 b hb _ o1 g) rfl ?_ ?_
    · (repeat' ((conv => whnf); (first | ((first | with_reducible refine spl (fun hc => ?_) (fun hc => ?_) | with_reducible refine spl' (fun hc => ?_) (fun hc => ?_)) <;> try (exfalso; omega)) | with_reducible refine imp_intro (fun hc => ?_) | refine vcq (k := ?_) | refine dr 1 (k := ?_) | refine dr 2 (k := ?_) | refine dr 3 (k := ?_) | refine dr 4 (k := ?_) | refine dr 5 (k := ?_) | refine dr 6 (k := ?_) | refine dr 7 (k := ?_) | refine dr 8 (k := ?_) | refine dr 9 (k := ?_) | refine dr 10 (k := ?_) | refine dr 11 (k := ?_) | refine dr 12 (k := ?_) | refine dr 1001 (k := ?_) | refine dr 1002 (k := ?_) | refine dr 1003 (k := ?_) | refine dr 1004 (k := ?_) | refine dr 1005 (k := ?_) | refine dr 1006 (k := ?_) | refine dr 1007 (k := ?_) | refine dr 1008 (k := ?_) | refine dr 1009 (k := ?_) | refine dr 1010 (k := ?_) | refine dr 1011 (k := ?_) | refine dr 1012 (k := ?_) | refine dr 1013 (k := ?_) | refine dr 1014 (k := ?_) | refine dr 1015 (k := ?_) | refine dr 1016 (k := ?_)))); all_goals (try conv => whnf); all_goals (try with_reducible exact trivial)
    · rintro _ _ ⟨rfl, rfl⟩
      have hjl : (b.jobs (St.run b l).keys).length ≤ 6 := by
        have : (b.jobs (St.run b l).keys).length ≤ b.B.toNat := Nat.le_trans (List.length_filter_le _ _) (by simp)
        omega
      have hjm := fun j (h : j ∈ b.jobs (St.run b l).keys) => jobs_mem h
      have hjd := jobs_distinct (b := b) (ks := (St.run b l).keys)
      have hfl : (St.run b l).flush b = (b.jobs (St.run b l).keys).foldl (fun s j => s.clean b j.1) (St.run b l) := rfl
      have hcost : ∀ j ∈ b.jobs (St.run b l).keys, b.costOf (St.run b l).keys j.1 = j.2.1 := fun j hj => by
        obtain ⟨i, _, _, rfl⟩ := hjm j hj; rfl
      generalize b.jobs (St.run b l).keys = js at *
      rw [hfl]
      (repeat' ((conv => whnf); (first | ((first | with_reducible refine spl (fun hc => ?_) (fun hc => ?_) | with_reducible refine spl' (fun hc => ?_) (fun hc => ?_)) <;> try (exfalso; omega)) | with_reducible refine imp_intro (fun hc => ?_) | refine vcq (k := ?_) | refine dr 1 (k := ?_) | refine dr 2 (k := ?_) | refine dr 3 (k := ?_) | refine dr 4 (k := ?_) | refine dr 5 (k := ?_) | refine dr 6 (k := ?_) | refine dr 7 (k := ?_) | refine dr 8 (k := ?_) | refine dr 9 (k := ?_) | refine dr 10 (k := ?_) | refine dr 11 (k := ?_) | refine dr 12 (k := ?_) | refine dr 1001 (k := ?_) | refine dr 1002 (k := ?_) | refine dr 1003 (k := ?_) | refine dr 1004 (k := ?_) | refine dr 1005 (k := ?_) | refine dr 1006 (k := ?_) | refine dr 1007 (k := ?_) | refine dr 1008 (k := ?_) | refine dr 1009 (k := ?_) | refine dr 1010 (k := ?_) | refine dr 1011 (k := ?_) | refine dr 1012 (k := ?_) | refine dr 1013 (k := ?_) | refine dr 1014 (k := ?_) | refine dr 1015 (k := ?_) | refine dr 1016 (k := ?_)))); all_goals (try conv => whnf); all_goals (try with_reducible exact trivial)
      refine ⟨Nat × St, fun q => q.1 ≤ js.length ∧ q.2.Ok b ∧ q.2.Small (l.length + q.1) ∧ (∀ j ∈ js.drop q.1, b.costOf q.2.keys j.1 = j.2.1) ∧ (js.drop q.1).foldl (fun s j => s.clean b j.1) q.2 = js.foldl (fun s j => s.clean b j.1) (St.run b l), fun q => js.length - q.1, fun q => [(23, .int .i64 q.1)], fun q => [(2, .cells 70 [.int .i64 b.B, .int .i64 b.T, .int .i64 b.K, .int .i64 b.C, .int .i64 b.L, .osl 3 b.N.toNat, .lit (.slice none 0 0), .osl 4 b.B.toNat, .int .i64 q.2.cost, .int .i64 q.2.cleaned, .int .i64 q.2.refreshed, .map 5]), (3, q.2.o1 b), (4, q.2.o2 b), (5, q.2.o3 g)], fun _ => [], (0, St.run b l), ⟨⟨by simp, o1, by simpa using o2, by simpa using hcost, rfl⟩, some [some 0, some 1, some 2, some 3, some 4, some 5], ?_⟩, ?_⟩
      · (repeat' ((conv => whnf); (first | ((first | with_reducible refine spl (fun hc => ?_) (fun hc => ?_) | with_reducible refine spl' (fun hc => ?_) (fun hc => ?_)) <;> try (exfalso; omega)) | with_reducible refine imp_intro (fun hc => ?_) | refine vcq (k := ?_) | refine dr 1 (k := ?_) | refine dr 2 (k := ?_) | refine dr 3 (k := ?_) | refine dr 4 (k := ?_) | refine dr 5 (k := ?_) | refine dr 6 (k := ?_) | refine dr 7 (k := ?_) | refine dr 8 (k := ?_) | refine dr 9 (k := ?_) | refine dr 10 (k := ?_) | refine dr 11 (k := ?_) | refine dr 12 (k := ?_) | refine dr 1001 (k := ?_) | refine dr 1002 (k := ?_) | refine dr 1003 (k := ?_) | refine dr 1004 (k := ?_) | refine dr 1005 (k := ?_) | refine dr 1006 (k := ?_) | refine dr 1007 (k := ?_) | refine dr 1008 (k := ?_) | refine dr 1009 (k := ?_) | refine dr 1010 (k := ?_) | refine dr 1011 (k := ?_) | refine dr 1012 (k := ?_) | refine dr 1013 (k := ?_) | refine dr 1014 (k := ?_) | refine dr 1015 (k := ?_) | refine dr 1016 (k := ?_)))); all_goals (try conv => whnf); all_goals (try with_reducible exact trivial)
      · rintro ⟨k, s⟩ ⟨k1, k2, k3, k4, k5⟩
        dsimp only at k1 k2 k3 k4 k5
        have hti : (k : Int).toNat = k := Int.toNat_natCast k
        (repeat' ((conv => whnf); (first | ((first | with_reducible refine spl (fun hc => ?_) (fun hc => ?_) | with_reducible refine spl' (fun hc => ?_) (fun hc => ?_)) <;> try (exfalso; omega)) | with_reducible refine imp_intro (fun hc => ?_) | refine vcq (k := ?_) | refine dr 1 (k := ?_) | refine dr 2 (k := ?_) | refine dr 3 (k := ?_) | refine dr 4 (k := ?_) | refine dr 5 (k := ?_) | refine dr 6 (k := ?_) | refine dr 7 (k := ?_) | refine dr 8 (k := ?_) | refine dr 9 (k := ?_) | refine dr 10 (k := ?_) | refine dr 11 (k := ?_) | refine dr 12 (k := ?_) | refine dr 1001 (k := ?_) | refine dr 1002 (k := ?_) | refine dr 1003 (k := ?_) | refine dr 1004 (k := ?_) | refine dr 1005 (k := ?_) | refine dr 1006 (k := ?_) | refine dr 1007 (k := ?_) | refine dr 1008 (k := ?_) | refine dr 1009 (k := ?_) | refine dr 1010 (k := ?_) | refine dr 1011 (k := ?_) | refine dr 1012 (k := ?_) | refine dr 1013 (k := ?_) | refine dr 1014 (k := ?_) | refine dr 1015 (k := ?_) | refine dr 1016 (k := ?_)))); all_goals (try conv => whnf); all_goals (try with_reducible exact trivial)
        · have hk : k < js.length := by dsimp only at hc; omega
          have hdr := drop_getD (0, 0, 0) hk
          have hmem := getD_mem (d := (0, 0, 0)) hk
          obtain ⟨i, i1, i2, i3⟩ := hjm _ hmem
          have c0 := k4 (js.getD k (0, 0, 0)) (by rw [hdr]; exact List.mem_cons_self)
          have q1 := k3.1
          have q2 := k3.2
          have q3 := k3.3
          have e0 : js.getD (k : Int).toNat (0, 0, 0) = js.getD k (0, 0, 0) := by rw [hti]
          generalize hj : js.getD k (0, 0, 0) = j at *
          have ej : j.1 = (i : Int) := by rw [i3]
          rw [ej] at c0
          refine callee_frame [2, 3, 4, 5] (clean41 b hb s k2 ⟨by omega, by omega, by omega⟩ g i i1 (js.getD (k : Int).toNat (0, 0, 0)) (by rw [e0, ej]) (by rw [e0, c0])) rfl ?_ ?_
          · (repeat' ((conv => whnf); (first | ((first | with_reducible refine spl (fun hc => ?_) (fun hc => ?_) | with_reducible refine spl' (fun hc => ?_) (fun hc => ?_)) <;> try (exfalso; omega)) | with_reducible refine imp_intro (fun hc => ?_) | refine vcq (k := ?_) | refine dr 1 (k := ?_) | refine dr 2 (k := ?_) | refine dr 3 (k := ?_) | refine dr 4 (k := ?_) | refine dr 5 (k := ?_) | refine dr 6 (k := ?_) | refine dr 7 (k := ?_) | refine dr 8 (k := ?_) | refine dr 9 (k := ?_) | refine dr 10 (k := ?_) | refine dr 11 (k := ?_) | refine dr 12 (k := ?_) | refine dr 1001 (k := ?_) | refine dr 1002 (k := ?_) | refine dr 1003 (k := ?_) | refine dr 1004 (k := ?_) | refine dr 1005 (k := ?_) | refine dr 1006 (k := ?_) | refine dr 1007 (k := ?_) | refine dr 1008 (k := ?_) | refine dr 1009 (k := ?_) | refine dr 1010 (k := ?_) | refine dr 1011 (k := ?_) | refine dr 1012 (k := ?_) | refine dr 1013 (k := ?_) | refine dr 1014 (k := ?_) | refine dr 1015 (k := ?_) | refine dr 1016 (k := ?_)))); all_goals (try conv => whnf); all_goals (try with_reducible exact trivial)
          · rintro _ _ ⟨rfl, rfl⟩
            (repeat' ((conv => whnf); (first | ((first | with_reducible refine spl (fun hc => ?_) (fun hc => ?_) | with_reducible refine spl' (fun hc => ?_) (fun hc => ?_)) <;> try (exfalso; omega)) | with_reducible refine imp_intro (fun hc => ?_) | refine vcq (k := ?_) | refine dr 1 (k := ?_) | refine dr 2 (k := ?_) | refine dr 3 (k := ?_) | refine dr 4 (k := ?_) | refine dr 5 (k := ?_) | refine dr 6 (k := ?_) | refine dr 7 (k := ?_) | refine dr 8 (k := ?_) | refine dr 9 (k := ?_) | refine dr 10 (k := ?_) | refine dr 11 (k := ?_) | refine dr 12 (k := ?_) | refine dr 1001 (k := ?_) | refine dr 1002 (k := ?_) | refine dr 1003 (k := ?_) | refine dr 1004 (k := ?_) | refine dr 1005 (k := ?_) | refine dr 1006 (k := ?_) | refine dr 1007 (k := ?_) | refine dr 1008 (k := ?_) | refine dr 1009 (k := ?_) | refine dr 1010 (k := ?_) | refine dr 1011 (k := ?_) | refine dr 1012 (k := ?_) | refine dr 1013 (k := ?_) | refine dr 1014 (k := ?_) | refine dr 1015 (k := ?_) | refine dr 1016 (k := ?_)))); all_goals (try conv => whnf); all_goals (try with_reducible exact trivial)
            refine ⟨(k + 1, s.clean b i), ⟨⟨by dsimp only; omega, clean_ok hb k2 _, ?_, fun j' hj' => ?_, ?_⟩, by dsimp only; omega⟩, some [some 0, some 1, some 2, some 3, some 4, some 5], ?_⟩
            · have := clean_small hb k3 (i : Int)
              dsimp only
              rw [show (l.length : Int) + ((k + 1 : Nat) : Int) = l.length + k + 1 by omega]
              exact this
            · dsimp only at hj' ⊢
              rw [clean_keys]
              have hne : j'.1 ≠ (i : Int) := by
                have hp : (js.drop k).Pairwise (fun j j' => j.1 ≠ j'.1) := hjd.sublist (List.drop_sublist k js)
                rw [hdr] at hp
                have := (List.pairwise_cons.1 hp).1 j' hj'
                rw [ej] at this
                exact fun h => this h.symm
              unfold Bands.costOf
              rw [lowest_filter hne]
              exact k4 j' (by rw [hdr]; exact List.mem_cons_of_mem _ hj')
            · dsimp only
              rw [← k5, hdr, List.foldl_cons, ej]
            · (repeat' ((conv => whnf); (first | ((first | with_reducible refine spl (fun hc => ?_) (fun hc => ?_) | with_reducible refine spl' (fun hc => ?_) (fun hc => ?_)) <;> try (exfalso; omega)) | with_reducible refine imp_intro (fun hc => ?_) | refine vcq (k := ?_) | refine dr 1 (k := ?_) | refine dr 2 (k := ?_) | refine dr 3 (k := ?_) | refine dr 4 (k := ?_) | refine dr 5 (k := ?_) | refine dr 6 (k := ?_) | refine dr 7 (k := ?_) | refine dr 8 (k := ?_) | refine dr 9 (k := ?_) | refine dr 10 (k := ?_) | refine dr 11 (k := ?_) | refine dr 12 (k := ?_) | refine dr 1001 (k := ?_) | refine dr 1002 (k := ?_) | refine dr 1003 (k := ?_) | refine dr 1004 (k := ?_) | refine dr 1005 (k := ?_) | refine dr 1006 (k := ?_) | refine dr 1007 (k := ?_) | refine dr 1008 (k := ?_) | refine dr 1009 (k := ?_) | refine dr 1010 (k := ?_) | refine dr 1011 (k := ?_) | refine dr 1012 (k := ?_) | refine dr 1013 (k := ?_) | refine dr 1014 (k := ?_) | refine dr 1015 (k := ?_) | refine dr 1016 (k := ?_)))); all_goals (try conv => whnf); all_goals (try with_reducible exact trivial)
        · obtain rfl : k = js.length := by dsimp only at hc; omega
          rw [List.drop_length] at k5
          have k5 : s = js.foldl (fun s j => s.clean b j.1) (St.run b l) := k5
          subst k5
          refine callee_frame [2, 3, 4, 5] (state39 b hb _ k2 g) rfl ?_ ?_
          · (repeat' ((conv => whnf); (first | ((first | with_reducible refine spl (fun hc => ?_) (fun hc => ?_) | with_reducible refine spl' (fun hc => ?_) (fun hc => ?_)) <;> try (exfalso; omega)) | with_reducible refine imp_intro (fun hc => ?_) | refine vcq (k := ?_) | refine dr 1 (k := ?_) | refine dr 2 (k := ?_) | refine dr 3 (k := ?_) | refine dr 4 (k := ?_) | refine dr 5 (k := ?_) | refine dr 6 (k := ?_) | refine dr 7 (k := ?_) | refine dr 8 (k := ?_) | refine dr 9 (k := ?_) | refine dr 10 (k := ?_) | refine dr 11 (k := ?_) | refine dr 12 (k := ?_) | refine dr 1001 (k := ?_) | refine dr 1002 (k := ?_) | refine dr 1003 (k := ?_) | refine dr 1004 (k := ?_) | refine dr 1005 (k := ?_) | refine dr 1006 (k := ?_) | refine dr 1007 (k := ?_) | refine dr 1008 (k := ?_) | refine dr 1009 (k := ?_) | refine dr 1010 (k := ?_) | refine dr 1011 (k := ?_) | refine dr 1012 (k := ?_) | refine dr 1013 (k := ?_) | refine dr 1014 (k := ?_) | refine dr 1015 (k := ?_) | refine dr 1016 (k := ?_)))); all_goals (try conv => whnf); all_goals (try with_reducible exact trivial)
          · rintro _ _ ⟨rfl, rfl⟩
            (repeat' ((conv => whnf); (first | ((first | with_reducible refine spl (fun hc => ?_) (fun hc => ?_) | with_reducible refine spl' (fun hc => ?_) (fun hc => ?_)) <;> try (exfalso; omega)) | with_reducible refine imp_intro (fun hc => ?_) | refine vcq (k := ?_) | refine dr 1 (k := ?_) | refine dr 2 (k := ?_) | refine dr 3 (k := ?_) | refine dr 4 (k := ?_) | refine dr 5 (k := ?_) | refine dr 6 (k := ?_) | refine dr 7 (k := ?_) | refine dr 8 (k := ?_) | refine dr 9 (k := ?_) | refine dr 10 (k := ?_) | refine dr 11 (k := ?_) | refine dr 12 (k := ?_) | refine dr 1001 (k := ?_) | refine dr 1002 (k := ?_) | refine dr 1003 (k := ?_) | refine dr 1004 (k := ?_) | refine dr 1005 (k := ?_) | refine dr 1006 (k := ?_) | refine dr 1007 (k := ?_) | refine dr 1008 (k := ?_) | refine dr 1009 (k := ?_) | refine dr 1010 (k := ?_) | refine dr 1011 (k := ?_) | refine dr 1012 (k := ?_) | refine dr 1013 (k := ?_) | refine dr 1014 (k := ?_) | refine dr 1015 (k := ?_) | refine dr 1016 (k := ?_)))); all_goals (try conv => whnf); all_goals (try with_reducible exact trivial)
            refine ⟨_, rfl, ?_⟩
            (repeat' ((conv => whnf); (first | ((first | with_reducible refine spl (fun hc => ?_) (fun hc => ?_) | with_reducible refine spl' (fun hc => ?_) (fun hc => ?_)) <;> try (exfalso; omega)) | with_reducible refine imp_intro (fun hc => ?_) | refine vcq (k := ?_) | refine dr 1 (k := ?_) | refine dr 2 (k := ?_) | refine dr 3 (k := ?_) | refine dr 4 (k := ?_) | refine dr 5 (k := ?_) | refine dr 6 (k := ?_) | refine dr 7 (k := ?_) | refine dr 8 (k := ?_) | refine dr 9 (k := ?_) | refine dr 10 (k := ?_) | refine dr 11 (k := ?_) | refine dr 12 (k := ?_) | refine dr 1001 (k := ?_) | refine dr 1002 (k := ?_) | refine dr 1003 (k := ?_) | refine dr 1004 (k := ?_) | refine dr 1005 (k := ?_) | refine dr 1006 (k := ?_) | refine dr 1007 (k := ?_) | refine dr 1008 (k := ?_) | refine dr 1009 (k := ?_) | refine dr 1010 (k := ?_) | refine dr 1011 (k := ?_) | refine dr 1012 (k := ?_) | refine dr 1013 (k := ?_) | refine dr 1014 (k := ?_) | refine dr 1015 (k := ?_) | refine dr 1016 (k := ?_)))); all_goals (try conv => whnf); all_goals (try with_reducible exact trivial)
end Go.Proofs

