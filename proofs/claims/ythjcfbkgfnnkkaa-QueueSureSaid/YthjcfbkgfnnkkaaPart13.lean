/- Own work: texts of the proof of a law (QuEnv, QuN, QuM, QuA, QuT, QuQ, QuL, SyCfz, Qu1, Qu2, Qu3, Qu4). No condition. -/
import Derived.Test.YthjcfbkgfnnkkaaPart12
import Derived.Test.YthjcfbkgfnnkkaaProg
import Derived.KernelRfl
namespace Go.Proofs
open Go Go.Sx
def Try.E : Go.Sx.Env := [
  {},
  ⟨true, 1, 8, .other, (some [.lit .nilFunc]), false⟩,
  ⟨true, 1, 8, (.int .i64), (some [.int .i64 0]), false⟩,
  ⟨true, 1, 8, (.int .i64), (some [.int .i64 0]), false⟩,
  ⟨true, 1, 1, .bool, (some [.prop False inferInstance]), false⟩,
  ⟨true, 1, 1, (.int .u8), (some [.int .u8 0]), false⟩,
  {},
  {},
  {},
  ⟨true, 1, 16, .str, (some [.lit (.string ByteArray.empty)]), false⟩,
  {},
  {},
  ⟨true, 1, 8, (.int .u64), (some [.int .u64 0]), false⟩,
  {},
  {},
  {},
  {},
  {},
  {},
  {},
  {},
  ⟨true, 1, 4, (.int .i32), (some [.int .i32 0]), false⟩,
  ⟨true, 1, 24, (.slice 106), (some [.lit (.slice none 0 0)]), false⟩,
  ⟨true, 2, 16, (.struct [(0, 1, 3), (1, 1, 3)]), (some [.int .i64 0, .int .i64 0]), true⟩,
  ⟨true, 2, 16, (.struct [(0, 1, 3), (1, 1, 3)]), (some [.int .i64 0, .int .i64 0]), true⟩,
  ⟨true, 9, 88, (.struct [(0, 1, 3), (1, 1, 3), (2, 1, 22), (3, 1, 3), (4, 1, 3), (5, 2, 24), (7, 2, 24)]), (some [.int .i64 0, .int .i64 0, .lit (.slice none 0 0), .int .i64 0, .int .i64 0, .int .i64 0, .int .i64 0, .int .i64 0, .int .i64 0]), true⟩,
  ⟨true, 9, 88, (.struct [(0, 1, 3), (1, 1, 3), (2, 1, 22), (3, 1, 3), (4, 1, 3), (5, 2, 24), (7, 2, 24)]), (some [.int .i64 0, .int .i64 0, .lit (.slice none 0 0), .int .i64 0, .int .i64 0, .int .i64 0, .int .i64 0, .int .i64 0, .int .i64 0]), true⟩,
  ⟨true, 1, 24, (.slice 24), (some [.lit (.slice none 0 0)]), false⟩,
  ⟨true, 1, 24, (.slice 41), (some [.lit (.slice none 0 0)]), false⟩,
  ⟨true, 13, 152, (.struct [(0, 9, 26), (9, 1, 3), (10, 1, 3), (11, 1, 27), (12, 1, 28)]), (some [.int .i64 0, .int .i64 0, .lit (.slice none 0 0), .int .i64 0, .int .i64 0, .int .i64 0, .int .i64 0, .int .i64 0, .int .i64 0, .int .i64 0, .int .i64 0, .lit (.slice none 0 0), .lit (.slice none 0 0)]), true⟩,
  ⟨true, 13, 152, (.struct [(0, 9, 26), (9, 1, 3), (10, 1, 3), (11, 1, 27), (12, 1, 28)]), (some [.int .i64 0, .int .i64 0, .lit (.slice none 0 0), .int .i64 0, .int .i64 0, .int .i64 0, .int .i64 0, .int .i64 0, .int .i64 0, .int .i64 0, .int .i64 0, .lit (.slice none 0 0), .lit (.slice none 0 0)]), true⟩,
  ⟨true, 1, 24, (.slice 3), (some [.lit (.slice none 0 0)]), false⟩,
  ⟨true, 3, 72, (.struct [(0, 1, 31), (1, 1, 31), (2, 1, 31)]), (some [.lit (.slice none 0 0), .lit (.slice none 0 0), .lit (.slice none 0 0)]), true⟩,
  ⟨true, 3, 72, (.struct [(0, 1, 31), (1, 1, 31), (2, 1, 31)]), (some [.lit (.slice none 0 0), .lit (.slice none 0 0), .lit (.slice none 0 0)]), true⟩,
  ⟨true, 1, 8, .other, (some [.lit .nilFunc]), false⟩,
  ⟨true, 1, 8, .other, (some [.lit .nilFunc]), false⟩,
  ⟨true, 1, 8, .other, (some [.lit .nilFunc]), false⟩,
  ⟨true, 1, 8, (.int .i64), (some [.int .i64 0]), false⟩,
  {},
  ⟨true, 1, 8, .other, (some [.lit .nilFunc]), false⟩,
  ⟨true, 5, 40, (.struct [(0, 1, 3), (1, 1, 3), (2, 1, 3), (3, 1, 3), (4, 1, 4)]), (some [.int .i64 0, .int .i64 0, .int .i64 0, .int .i64 0, .prop False inferInstance]), true⟩,
  ⟨true, 5, 40, (.struct [(0, 1, 3), (1, 1, 3), (2, 1, 3), (3, 1, 3), (4, 1, 4)]), (some [.int .i64 0, .int .i64 0, .int .i64 0, .int .i64 0, .prop False inferInstance]), true⟩,
  ⟨true, 1, 8, .other, (some [.lit .nilFunc]), false⟩,
  ⟨true, 1, 8, .other, (some [.lit .nilFunc]), false⟩,
  {},
  ⟨true, 1, 8, .other, (some [.lit .nilFunc]), false⟩,
  ⟨true, 1, 8, .other, (some [.lit .nilFunc]), false⟩,
  ⟨true, 1, 8, .other, (some [.lit .nilFunc]), false⟩,
  ⟨true, 1, 8, .other, (some [.lit .nilFunc]), false⟩,
  ⟨true, 3, 24, (.struct [(0, 1, 3), (1, 1, 3), (2, 1, 3)]), (some [.int .i64 0, .int .i64 0, .int .i64 0]), true⟩,
  ⟨true, 3, 24, (.struct [(0, 1, 3), (1, 1, 3), (2, 1, 3)]), (some [.int .i64 0, .int .i64 0, .int .i64 0]), true⟩,
  ⟨true, 1, 8, .other, (some [.lit .nilFunc]), false⟩,
  {},
  ⟨true, 1, 8, .other, (some [.lit .nilFunc]), false⟩,
  ⟨true, 1, 8, .other, (some [.lit .nilFunc]), false⟩,
  ⟨true, 1, 8, .other, (some [.lit .nilFunc]), false⟩,
  {},
  ⟨true, 1, 8, .other, (some [.lit .nilFunc]), false⟩,
  {},
  ⟨true, 1, 8, .other, (some [.lit .nilFunc]), false⟩,
  {},
  ⟨true, 1, 8, .other, (some [.lit .nilFunc]), false⟩,
  ⟨true, 1, 8, .other, (some [.lit .nilFunc]), false⟩,
  ⟨true, 1, 8, .other, (some [.lit .nilFunc]), false⟩,
  ⟨true, 1, 8, .other, (some [.lit .nilFunc]), false⟩,
  ⟨true, 1, 8, .other, (some [.lit .nilFunc]), false⟩,
  ⟨true, 1, 8, .other, (some [.lit .nilFunc]), false⟩,
  ⟨true, 1, 8, .other, (some [.lit .nilFunc]), false⟩,
  ⟨true, 13, 152, (.struct [(0, 13, 30)]), (some [.int .i64 0, .int .i64 0, .lit (.slice none 0 0), .int .i64 0, .int .i64 0, .int .i64 0, .int .i64 0, .int .i64 0, .int .i64 0, .int .i64 0, .int .i64 0, .lit (.slice none 0 0), .lit (.slice none 0 0)]), true⟩,
  ⟨true, 13, 152, (.struct [(0, 13, 30)]), (some [.int .i64 0, .int .i64 0, .lit (.slice none 0 0), .int .i64 0, .int .i64 0, .int .i64 0, .int .i64 0, .int .i64 0, .int .i64 0, .int .i64 0, .int .i64 0, .lit (.slice none 0 0), .lit (.slice none 0 0)]), true⟩,
  {},
  ⟨true, 1, 8, .other, (some [.lit .nilFunc]), false⟩,
  ⟨true, 1, 8, .other, (some [.lit .nilFunc]), false⟩,
  ⟨true, 1, 8, .other, (some [.lit .nilFunc]), false⟩,
  ⟨true, 1, 8, .other, (some [.lit .nilFunc]), false⟩,
  ⟨true, 3, 24, (.struct [(0, 1, 3), (1, 1, 3), (2, 1, 3)]), (some [.int .i64 0, .int .i64 0, .int .i64 0]), true⟩,
  ⟨true, 3, 24, (.struct [(0, 1, 3), (1, 1, 3), (2, 1, 3)]), (some [.int .i64 0, .int .i64 0, .int .i64 0]), true⟩,
  ⟨true, 1, 24, (.slice 76), (some [.lit (.slice none 0 0)]), false⟩,
  ⟨true, 1, 8, .other, (some [.lit .nilFunc]), false⟩,
  ⟨true, 1, 8, .other, (some [.lit .nilFunc]), false⟩,
  ⟨true, 1, 8, .other, (some [.lit .nilFunc]), false⟩,
  ⟨true, 1, 8, .other, (some [.lit .nilFunc]), false⟩,
  {},
  ⟨true, 1, 8, .other, (some [.lit .nilFunc]), false⟩,
  ⟨true, 1, 8, .other, (some [.lit .nilFunc]), false⟩,
  ⟨true, 1, 8, .other, (some [.lit .nilFunc]), false⟩,
  {},
  ⟨true, 1, 8, .other, (some [.lit .nilFunc]), false⟩,
  ⟨true, 1, 8, .other, (some [.lit .nilFunc]), false⟩,
  ⟨true, 1, 8, .other, (some [.lit .nilFunc]), false⟩,
  ⟨true, 2, 48, (.struct [(0, 1, 31), (1, 1, 31)]), (some [.lit (.slice none 0 0), .lit (.slice none 0 0)]), true⟩,
  ⟨true, 2, 48, (.struct [(0, 1, 31), (1, 1, 31)]), (some [.lit (.slice none 0 0), .lit (.slice none 0 0)]), true⟩,
  ⟨true, 1, 8, .other, (some [.lit .nilFunc]), false⟩,
  ⟨true, 1, 8, .other, (some [.lit .nilFunc]), false⟩,
  ⟨true, 1, 8, .other, (some [.lit .nilFunc]), false⟩,
  ⟨true, 1, 8, .other, (some [.lit .nilFunc]), false⟩,
  ⟨true, 1, 8, .other, (some [.lit .nilFunc]), false⟩,
  ⟨true, 1, 8, .other, (some [.lit .nilFunc]), false⟩,
  ⟨true, 1, 8, .other, (some [.lit .nilFunc]), false⟩,
  ⟨true, 1, 8, .other, (some [.lit .nilFunc]), false⟩,
  ⟨true, 1, 8, .other, (some [.lit .nilFunc]), false⟩,
  ⟨true, 2, 16, (.struct [(0, 1, 3), (1, 1, 3)]), (some [.int .i64 0, .int .i64 0]), true⟩,
  ⟨true, 2, 16, (.struct [(0, 1, 3), (1, 1, 3)]), (some [.int .i64 0, .int .i64 0]), true⟩,
  ⟨true, 1, 8, .other, (some [.lit .nilFunc]), false⟩,
  ⟨true, 1, 8, .other, (some [.lit .nilFunc]), false⟩,
  ⟨true, 2, 16, (.struct [(0, 1, 3), (1, 1, 3)]), (some [.int .i64 0, .int .i64 0]), true⟩,
  ⟨true, 2, 16, (.struct [(0, 1, 3), (1, 1, 3)]), (some [.int .i64 0, .int .i64 0]), true⟩,
  ⟨true, 1, 8, .other, (some [.lit .nilFunc]), false⟩,
  ⟨true, 1, 8, .other, (some [.lit .nilFunc]), false⟩,
  {},
  ⟨true, 1, 8, .other, (some [.lit .nilFunc]), false⟩,
  ⟨true, 1, 8, .other, (some [.lit .nilFunc]), false⟩,
  ⟨true, 1, 8, .other, (some [.lit .nilFunc]), false⟩,
  ⟨true, 1, 8, .other, (some [.lit .nilFunc]), false⟩,
  {},
  ⟨true, 1, 8, .other, (some [.lit .nilFunc]), false⟩,
  ⟨true, 1, 8, .other, (some [.lit .nilFunc]), false⟩,
  ⟨true, 1, 8, .other, (some [.lit .nilFunc]), false⟩,
  ⟨true, 1, 8, .other, (some [.lit .nilFunc]), false⟩,
  ⟨true, 1, 8, .other, (some [.lit .nilFunc]), false⟩,
  ⟨true, 1, 8, .other, (some [.lit .nilFunc]), false⟩,
  ⟨true, 1, 8, .other, (some [.lit .nilFunc]), false⟩,
  {},
  ⟨true, 1, 8, .other, (some [.lit .nilFunc]), false⟩,
  ⟨true, 1, 8, .other, (some [.lit .nilFunc]), false⟩,
  ⟨true, 1, 8, .other, (some [.lit .nilFunc]), false⟩,
  ⟨true, 1, 8, .other, (some [.lit .nilFunc]), false⟩,
  ⟨true, 1, 8, .other, (some [.lit .nilFunc]), false⟩,
  ⟨true, 1, 8, .other, (some [.lit .nilFunc]), false⟩,
  ⟨true, 1, 8, (.int .u64), (some [.int .u64 0]), false⟩,
  ⟨true, 9, 88, (.struct [(0, 9, 26)]), (some [.int .i64 0, .int .i64 0, .lit (.slice none 0 0), .int .i64 0, .int .i64 0, .int .i64 0, .int .i64 0, .int .i64 0, .int .i64 0]), true⟩,
  ⟨true, 9, 88, (.struct [(0, 9, 26)]), (some [.int .i64 0, .int .i64 0, .lit (.slice none 0 0), .int .i64 0, .int .i64 0, .int .i64 0, .int .i64 0, .int .i64 0, .int .i64 0]), true⟩,
  ⟨true, 5, 40, (.struct [(0, 1, 3), (1, 1, 3), (2, 1, 3), (3, 1, 3), (4, 1, 3)]), (some [.int .i64 0, .int .i64 0, .int .i64 0, .int .i64 0, .int .i64 0]), true⟩,
  ⟨true, 5, 40, (.struct [(0, 1, 3), (1, 1, 3), (2, 1, 3), (3, 1, 3), (4, 1, 3)]), (some [.int .i64 0, .int .i64 0, .int .i64 0, .int .i64 0, .int .i64 0]), true⟩,
  {},
  ⟨true, 1, 8, .other, (some [.lit .nilFunc]), false⟩,
  {},
  ⟨true, 1, 8, .other, (some [.lit .nilFunc]), false⟩,
  ⟨true, 1, 8, .other, (some [.lit .nilFunc]), false⟩,
  ⟨true, 1, 8, .other, (some [.lit .nilFunc]), false⟩,
  ⟨true, 1, 8, .other, (some [.lit .nilFunc]), false⟩,
  ⟨true, 1, 8, .other, (some [.lit .nilFunc]), false⟩,
  ⟨true, 1, 8, (.int .i64), (some [.int .i64 0]), false⟩,
  {},
  ⟨true, 1, 8, .other, (some [.lit .nilFunc]), false⟩,
  ⟨true, 1, 8, .other, (some [.lit .nilFunc]), false⟩,
  ⟨true, 1, 8, .other, (some [.lit .nilFunc]), false⟩,
  {},
  ⟨true, 1, 8, .other, (some [.lit .nilFunc]), false⟩,
  ⟨true, 1, 8, .other, (some [.lit .nilFunc]), false⟩,
  ⟨true, 1, 4, (.int .u32), (some [.int .u32 0]), false⟩,
  ⟨true, 1, 8, .other, (some [.lit .nilFunc]), false⟩,
  ⟨true, 1, 8, (.int .u64), (some [.int .u64 0]), false⟩,
  ⟨true, 1, 8, .other, (some [.lit .nilFunc]), false⟩,
  ⟨true, 2, 16, (.array 2 3), (some [.int .i64 0, .int .i64 0]), true⟩,
  {},
  ⟨true, 1, 8, .other, (some [.lit .nilFunc]), false⟩,
  ⟨true, 3, 24, (.struct [(0, 2, 24), (2, 1, 3)]), (some [.int .i64 0, .int .i64 0, .int .i64 0]), true⟩,
  ⟨true, 3, 24, (.struct [(0, 2, 24), (2, 1, 3)]), (some [.int .i64 0, .int .i64 0, .int .i64 0]), true⟩,
  ⟨true, 6, 48, (.array 2 158), (some [.int .i64 0, .int .i64 0, .int .i64 0, .int .i64 0, .int .i64 0, .int .i64 0]), true⟩,
  ⟨true, 1, 8, .other, (some [.lit .nilFunc]), false⟩,
  ⟨true, 1, 8, .other, (some [.lit .nilFunc]), false⟩,
  ⟨true, 1, 8, (.int .u64), (some [.int .u64 0]), false⟩,
  ⟨true, 1, 8, .other, (some [.lit .nilFunc]), false⟩,
  ⟨true, 1, 8, .other, (some [.lit .nilFunc]), false⟩,
  ⟨true, 1, 8, .other, (some [.lit .nilFunc]), false⟩,
  ⟨true, 1, 8, .other, (some [.lit (.pointer none)]), false⟩,
  ⟨true, 1, 8, .other, (some [.lit .nilFunc]), false⟩,
  ⟨true, 1, 8, .other, (some [.lit .nilFunc]), false⟩,
  ⟨true, 1, 8, .other, (some [.lit .nilFunc]), false⟩,
  ⟨true, 1, 8, .other, (some [.lit (.pointer none)]), false⟩,
  ⟨true, 1, 8, .other, (some [.lit .nilFunc]), false⟩,
  ⟨true, 1, 8, .other, (some [.lit .nilFunc]), false⟩,
  {},
  {},
  {},
  {},
  {},
  {},
  {},
  {},
  ⟨true, 1, 8, .other, (some [.lit (.pointer none)]), false⟩,
  {},
  {},
  {},
  {},
  {}]
def Try.mask (t : Nat) : Bool := List.elem t [1, 2, 3, 4, 5, 9, 12, 21, 22, 23, 24, 25, 26, 27, 28, 29, 30, 31, 32, 33, 34, 35, 36, 37, 39, 40, 41, 42, 43, 45, 46, 47, 48, 49, 50, 51, 53, 54, 55, 57, 59, 61, 62, 63, 64, 65, 66, 67, 68, 69, 71, 72, 73, 74, 75, 76, 77, 78, 79, 80, 81, 83, 84, 85, 87, 88, 89, 90, 91, 92, 93, 94, 95, 96, 97, 98, 99, 100, 101, 102, 103, 104, 105, 106, 107, 108, 110, 111, 112, 113, 115, 116, 117, 118, 119, 120, 121, 123, 124, 125, 126, 127, 128, 129, 130, 131, 132, 133, 135, 137, 138, 139, 140, 141, 142, 144, 145, 146, 148, 149, 150, 151, 152, 153, 154, 156, 157, 158, 159, 160, 161, 162, 163, 164, 165, 166, 167, 168, 169, 170, 171, 172, 181]
theorem Try.E_eq : Try.E = (List.range 187).map (fun t => bif Try.mask t then Go.Sx.tiOf Try.prog t else {}) := by kernel_rfl
theorem Try.E_ok : Go.Sx.ProgOk Try.E Try.prog := ⟨Go.Sx.envOk_of Try.E_eq, by kernel_rfl⟩
end Go.Proofs

namespace Go.Proofs
set_option maxHeartbeats 1000000
def loc (H : Nat) : List Nat → Nat → Nat × Nat × Nat
  | [], _ => (0, 0, 0)
  | s :: S, n => if n < H * s then (0, n / s, n % s) else let p := loc H S (n - H * s); (p.1 + 1, p.2)
def fstS (H : Nat) (S : List Nat) (c h : Nat) : Nat := H * (S.take c).sum + h * S.getD c 0
def AtS (H : Nat) (S : List Nat) (n c h s : Nat) : Prop := c < S.length ∧ h < H ∧ s < S.getD c 0 ∧ n = fstS H S c h + s
theorem loc_of {H : Nat} : ∀ {S : List Nat} {n c h s : Nat}, AtS H S n c h s → loc H S n = (c, h, s)
  | [], n, c, h, s, ⟨h1, _⟩ => by simp at h1
  | a :: S, n, 0, h, s, ⟨h1, h2, h3, h4⟩ => by
    simp only [fstS, List.take_zero, List.sum_nil, Nat.mul_zero, Nat.zero_add, List.getD_cons_zero] at h3 h4
    have hlt : n < H * a := by
      have : (h + 1) * a ≤ H * a := Nat.mul_le_mul_right _ h2
      rw [Nat.succ_mul] at this
      omega
    have e1 : n / a = h := by
      rw [h4, Nat.mul_comm, Nat.mul_add_div (by omega), Nat.div_eq_of_lt h3, Nat.add_zero]
    have e2 : n % a = s := by
      rw [h4, Nat.mul_comm, Nat.mul_add_mod, Nat.mod_eq_of_lt h3]
    unfold loc
    rw [if_pos hlt, e1, e2]
  | a :: S, n, c + 1, h, s, ⟨h1, h2, h3, h4⟩ => by
    simp only [fstS, List.take_succ_cons, List.sum_cons, List.getD_cons_succ, Nat.mul_add] at h3 h4
    have hr : AtS H S (n - H * a) c h s := ⟨by simpa using h1, h2, h3, by unfold fstS; omega⟩
    have ih := loc_of hr
    unfold loc
    rw [if_neg (by omega)]
    simp only [ih]
theorem at_loc {H : Nat} : ∀ {S : List Nat} {n : Nat}, n < H * S.sum → AtS H S n (loc H S n).1 (loc H S n).2.1 (loc H S n).2.2
  | [], n, h => by simp at h
  | a :: S, n, h => by
    unfold loc
    by_cases hlt : n < H * a
    · rw [if_pos hlt]
      have ha : 0 < a := by
        rcases Nat.eq_zero_or_pos a with e | e
        · subst e; simp at hlt
        · exact e
      refine ⟨by simp, ?_, ?_, ?_⟩
      · exact Nat.div_lt_of_lt_mul (by rw [Nat.mul_comm]; exact hlt)
      · exact Nat.mod_lt _ ha
      · simp only [fstS, List.take_zero, List.sum_nil, Nat.mul_zero, Nat.zero_add, List.getD_cons_zero]
        rw [Nat.mul_comm]
        exact (Nat.div_add_mod n a).symm
    · rw [if_neg hlt]
      simp only [List.sum_cons, Nat.mul_add] at h
      obtain ⟨h1, h2, h3, h4⟩ := at_loc (H := H) (S := S) (n := n - H * a) (by omega)
      refine ⟨by simpa using h1, h2, by simpa using h3, ?_⟩
      simp only [fstS, List.take_succ_cons, List.sum_cons, List.getD_cons_succ, Nat.mul_add]
      unfold fstS at h4
      omega
theorem fstS_head (H : Nat) (S : List Nat) (c h : Nat) : fstS H S c (h + 1) = fstS H S c h + S.getD c 0 := by
  unfold fstS
  rw [Nat.succ_mul]
  omega
theorem fstS_cyl (H : Nat) (S : List Nat) (c : Nat) (hc : c < S.length) : fstS H S (c + 1) 0 = fstS H S c H := by
  unfold fstS
  rw [List.take_succ_eq_append_getElem hc, List.sum_append, Nat.mul_add, Nat.zero_mul, Nat.add_zero]
  simp [List.getD_eq_getElem?_getD, hc]
theorem fstS_zero (H : Nat) (S : List Nat) : fstS H S 0 0 = 0 := by simp [fstS]
theorem fstS_all (H : Nat) (S : List Nat) : fstS H S S.length 0 = H * S.sum := by simp [fstS]
theorem at_prev {H : Nat} {S : List Nat} {n c h s : Nat} (h1 : AtS H S (n + 1) c h s) (hpos : ∀ a ∈ S, 0 < a) :
    AtS H S n c h (s - 1) ∧ 0 < s ∨ s = 0 ∧ 0 < h ∧ AtS H S n c (h - 1) (S.getD c 0 - 1) ∨ s = 0 ∧ h = 0 ∧ 0 < c ∧ AtS H S n (c - 1) (H - 1) (S.getD (c - 1) 0 - 1) := by
  obtain ⟨h2, h3, h4, h5⟩ := h1
  have hp : ∀ c, c < S.length → 0 < S.getD c 0 := fun c hc => by
    rw [show S.getD c 0 = S[c] by simp [List.getD_eq_getElem?_getD, hc]]
    exact hpos _ (List.getElem_mem hc)
  rcases Nat.eq_zero_or_pos s with rfl | hs
  · rcases Nat.eq_zero_or_pos h with rfl | hh
    · rcases Nat.eq_zero_or_pos c with rfl | hc
      · rw [fstS_zero] at h5; omega
      · have hp1 := hp (c - 1) (by omega)
        have e := fstS_cyl H S (c - 1) (by omega)
        rw [show c - 1 + 1 = c by omega] at e
        have e2 := fstS_head H S (c - 1) (H - 1)
        rw [show H - 1 + 1 = H by omega] at e2
        exact .inr (.inr ⟨rfl, rfl, hc, by omega, by omega, by omega, by omega⟩)
    · have hp1 := hp c h2
      have e := fstS_head H S c (h - 1)
      rw [show h - 1 + 1 = h by omega] at e
      exact .inr (.inl ⟨rfl, hh, h2, by omega, by omega, by omega⟩)
  · exact .inl ⟨⟨h2, h3, by omega, by omega⟩, hs⟩
def kindS (H : Nat) (S : List Nat) (n : Nat) : Nat :=
  if (loc H S n).1 ≠ (loc H S (n - 1)).1 then 2 else if (loc H S n).2.1 ≠ (loc H S (n - 1)).2.1 then 1 else 0
theorem kindS_at {H : Nat} {S : List Nat} {n c h s : Nat} (h1 : AtS H S n c h s) (hn : 0 < n) (hpos : ∀ a ∈ S, 0 < a) :
    kindS H S n = if 0 < s then 0 else if 0 < h then 1 else 2 := by
  obtain ⟨m, rfl⟩ : ∃ m, n = m + 1 := ⟨n - 1, by omega⟩
  unfold kindS
  rw [loc_of h1, Nat.add_sub_cancel]
  rcases at_prev h1 hpos with ⟨g, hs⟩ | ⟨hs, hh, g⟩ | ⟨hs, hh, hc, g⟩
  · rw [loc_of g]; simp [hs]
  · rw [loc_of g]
    have e : h ≠ h - 1 := by omega
    simp [hs, hh, e]
  · rw [loc_of g]
    have e : c ≠ c - 1 := by omega
    simp [hs, hh, e]
theorem gap_eq {T skew ticks : Int} (h2 : skew < T) (h3 : 0 ≤ ticks) (m : Nat) (h4 : ticks ≤ skew + m * T) (h5 : ∀ j : Nat, j < m → skew + j * T < ticks) :
    ticks + ((skew - ticks) % T + T) % T = skew + m * T := by
  have e : ((skew - ticks) % T + T) % T = (skew - ticks) % T := by
    rw [Int.add_emod_right, Int.emod_emod_of_dvd _ (Int.dvd_refl T)]
  rw [e]
  have e2 : (skew - ticks) % T = (skew + m * T - ticks) % T := by
    rw [show skew + m * T - ticks = (skew - ticks) + m * T by omega, Int.add_mul_emod_self_right]
  rw [e2, Int.emod_eq_of_lt (by omega)]
  · omega
  · rcases m with _ | m
    · simp; omega
    · have := h5 m (by omega)
      rw [show ((m + 1 : Nat) : Int) * T = m * T + T by push_cast; rw [Int.add_mul, Int.one_mul]]
      omega
end Go.Proofs

namespace Go.Proofs
open Go Go.Sx
set_option maxHeartbeats 1000000
def sumR (f : Nat → Int) (a : Nat) : Nat → Int
  | 0 => 0
  | k + 1 => sumR f a k + f (a + k)
theorem sumR_add (f : Nat → Int) (a k : Nat) : ∀ m, sumR f a (k + m) = sumR f a k + sumR f (a + k) m
  | 0 => by simp [sumR]
  | m + 1 => by
    show sumR f a (k + m) + f (a + (k + m)) = sumR f a k + (sumR f (a + k) m + f (a + k + m))
    rw [sumR_add f a k m, Nat.add_assoc]
    omega
theorem sumR_const (f : Nat → Int) (v : Int) (a : Nat) : ∀ m, (∀ i, i < m → f (a + i) = v) → sumR f a m = m * v
  | 0, _ => by simp [sumR]
  | m + 1, h => by
    show sumR f a m + f (a + m) = _
    rw [sumR_const f v a m (fun i hi => h i (by omega)), h m (by omega)]
    push_cast
    rw [Int.add_mul, Int.one_mul]
theorem sumR_congr {f g : Nat → Int} {a : Nat} : ∀ m, (∀ i, i < m → f (a + i) = g (a + i)) → sumR f a m = sumR g a m
  | 0, _ => rfl
  | m + 1, h => by
    show sumR f a m + f (a + m) = sumR g a m + g (a + m)
    rw [sumR_congr m (fun i hi => h i (by omega)), h m (by omega)]
theorem sumR_le {f g : Nat → Int} {a : Nat} : ∀ m, (∀ i, f (a + i) ≤ g (a + i)) → sumR f a m ≤ sumR g a m
  | 0, _ => Int.le_refl _
  | m + 1, h => by
    show sumR f a m + f (a + m) ≤ sumR g a m + g (a + m)
    have := sumR_le m h
    have := h m
    omega
theorem sumR_lin (f g h : Nat → Int) (x y : Int) (a : Nat) (e : ∀ i, h i = x * f i + y * g i) : ∀ m, sumR h a m = x * sumR f a m + y * sumR g a m
  | 0 => by simp [sumR]
  | m + 1 => by
    show sumR h a m + h (a + m) = x * (sumR f a m + f (a + m)) + y * (sumR g a m + g (a + m))
    rw [sumR_lin f g h x y a e m, e, Int.mul_add, Int.mul_add]
    omega
def isK (H : Nat) (S : List Nat) (k n : Nat) : Int := if kindS H S n = k then 1 else 0
def durS (H : Nat) (S : List Nat) (T : Int) (n : Nat) : Int := T / (S.getD (loc H S n).1 0 : Nat)
theorem durS_at {H : Nat} {S : List Nat} {T : Int} {n c h s : Nat} (h1 : AtS H S n c h s) : durS H S T n = T / (S.getD c 0 : Nat) := by
  unfold durS
  rw [loc_of h1]
def partA (fr ct F : Nat) : Nat := min (fr + ct) F - fr
def partB (fr ct F : Nat) : Nat := min F (fr + ct - 1) - fr
theorem in_track {H : Nat} {S : List Nat} {c h i : Nat} (hc : c < S.length) (hh : h < H) (h1 : fstS H S c h ≤ i) (h2 : i < fstS H S c h + S.getD c 0) : AtS H S i c h (i - fstS H S c h) :=
  ⟨hc, hh, by omega, by omega⟩
theorem run_none {fr ct F s : Nat} (hct : 1 ≤ ct) (h : ¬ (max fr F : Nat) < min (fr + ct) (F + s)) : partA fr ct (F + s) = partA fr ct F ∧ partB fr ct (F + s) = partB fr ct F := by
  unfold partA partB
  omega
theorem run_some {H : Nat} {S : List Nat} {T : Int} {fr ct c h : Nat} (hpos : ∀ a ∈ S, 0 < a) (hc : c < S.length) (hh : h < H) (hct : 1 ≤ ct) (hall : fr + ct ≤ H * S.sum)
    (hov : (max fr (fstS H S c h) : Nat) < min (fr + ct) (fstS H S c h + S.getD c 0)) :
    sumR (durS H S T) fr (partA fr ct (fstS H S c h + S.getD c 0)) = sumR (durS H S T) fr (partA fr ct (fstS H S c h)) + ((min (fr + ct) (fstS H S c h + S.getD c 0) - max fr (fstS H S c h) : Nat) : Int) * (T / (S.getD c 0 : Nat)) ∧
    ∀ k, 0 < k → sumR (isK H S k) (fr + 1) (partB fr ct (fstS H S c h + S.getD c 0)) = sumR (isK H S k) (fr + 1) (partB fr ct (fstS H S c h)) +
      if fstS H S c h + S.getD c 0 < fr + ct then (if k = (if h + 1 = H then 2 else 1) then 1 else 0) else 0 := by
  generalize hF : fstS H S c h = F at *
  generalize hs : S.getD c 0 = s at *
  have hs0 : 0 < s := by
    rw [← hs, show S.getD c 0 = S[c] by simp [List.getD_eq_getElem?_getD, hc]]
    exact hpos _ (List.getElem_mem hc)
  have hat : ∀ i, F ≤ i → i < F + s → AtS H S i c h (i - F) := fun i h1 h2 => by
    have := in_track (i := i) hc hh (by omega) (by omega)
    rwa [hF] at this
  constructor
  · have e : partA fr ct (F + s) = partA fr ct F + (min (fr + ct) (F + s) - max fr F) := by unfold partA; omega
    rw [e, sumR_add, sumR_const (durS H S T) (T / (s : Nat)) (fr + partA fr ct F)]
    intro i hi
    rw [durS_at (hat _ (by unfold partA; omega) (by unfold partA; omega)), hs]
  · intro k hk
    have h0 : ∀ i, F < i → i < F + s → isK H S k i = 0 := fun i h1 h2 => by
      have e : kindS H S i = 0 := by rw [kindS_at (hat i (by omega) h2) (by omega) hpos, if_pos (by omega)]
      unfold isK
      rw [e, if_neg (by omega)]
    by_cases hlt : F + s < fr + ct
    · rw [if_pos hlt]
      have e : partB fr ct (F + s) = partB fr ct F + (partB fr ct (F + s) - partB fr ct F - 1) + 1 := by unfold partB; omega
      have e2 : fr + 1 + (partB fr ct F + (partB fr ct (F + s) - partB fr ct F - 1)) = F + s := by unfold partB; omega
      rw [e]
      show sumR _ _ (partB fr ct F + (partB fr ct (F + s) - partB fr ct F - 1)) + isK H S k (fr + 1 + (partB fr ct F + (partB fr ct (F + s) - partB fr ct F - 1))) = _
      rw [sumR_add, sumR_const (isK H S k) 0 (fr + 1 + partB fr ct F) _ (fun i hi => h0 _ (by unfold partB; omega) (by unfold partB at hi ⊢; omega)), e2]
      have hk2 : isK H S k (F + s) = if k = (if h + 1 = H then 2 else 1) then 1 else 0 := by
        unfold isK
        by_cases hl : h + 1 = H
        · have hcs : c + 1 < S.length := by
            rcases Nat.lt_or_ge (c + 1) S.length with g | g
            · exact g
            · exfalso
              have h3 := fstS_cyl H S c hc
              have h4 := fstS_head H S c h
              rw [hl, ← h3, show c + 1 = S.length by omega, fstS_all] at h4
              omega
          have hat2 : AtS H S (F + s) (c + 1) 0 0 := by
            refine ⟨hcs, by omega, ?_, ?_⟩
            · rw [show S.getD (c + 1) 0 = S[c + 1] by simp [List.getD_eq_getElem?_getD, hcs]]
              exact hpos _ (List.getElem_mem hcs)
            · have h3 := fstS_cyl H S c hc
              have h4 := fstS_head H S c h
              rw [hl, ← h3] at h4
              omega
          rw [kindS_at hat2 (by omega) hpos]
          simp only [Nat.lt_irrefl, if_false, if_pos hl]
          by_cases e3 : k = 2
          · simp [e3]
          · rw [if_neg e3, if_neg (fun g => e3 g.symm)]
        · have hat2 : AtS H S (F + s) c (h + 1) 0 := by
            refine ⟨hc, by omega, by omega, ?_⟩
            have h4 := fstS_head H S c h
            omega
          rw [kindS_at hat2 (by omega) hpos]
          simp only [Nat.lt_irrefl, if_false, if_neg hl, Nat.succ_pos, if_true]
          by_cases e3 : k = 1
          · simp [e3]
          · rw [if_neg e3, if_neg (fun g => e3 g.symm)]
      rw [hk2]
      simp
    · rw [if_neg hlt]
      have e : partB fr ct (F + s) = partB fr ct F + (partB fr ct (F + s) - partB fr ct F) := by unfold partB; omega
      rw [e, sumR_add, sumR_const (isK H S k) 0 (fr + 1 + partB fr ct F) _ (fun i hi => h0 _ (by unfold partB; omega) (by unfold partB at hi ⊢; omega))]
      simp
end Go.Proofs

namespace Go.Proofs
open Go Go.Sx
set_option maxHeartbeats 1000000
def cntGt (l : List Nat) (m : Nat) : Nat := (l.filter fun b => decide (m < b)).length
def FitsQ (n p : Nat) (od : Nat → Prop) (before : List Nat) (r : Nat) : Prop := ∀ m, m < n → m < r → m ∉ before → 1 + cntGt before m ≤ p ∧ ¬ od m ∧ ¬ od r
def AllP (n p : Nat) (od : Nat → Prop) (o : List Nat) : Prop := ∀ i, i < o.length → FitsQ n p od (o.take i) (o.getD i 0)
def AllR (p : Nat) (od : Nat → Prop) (o : List Nat) : Prop := ∀ i, i < o.length → (∀ k, k < i → o.getD i 0 ≤ o.getD k 0 → ¬ od (o.getD k 0) ∧ ¬ od (o.getD i 0)) ∧ ((o.take i).filter fun b => decide (o.getD i 0 ≤ b)).length ≤ p
structure IsOrd (n : Nat) (o : List Nat) : Prop where
  len : o.length = n
  nd : o.Nodup
  lt : ∀ x ∈ o, x < n
theorem getD_get {o : List Nat} {i : Nat} (h : i < o.length) : o.getD i 0 = o[i] := by simp [List.getD_eq_getElem?_getD, h]
theorem IsOrd.inj {n : Nat} {o : List Nat} (h : IsOrd n o) {i k : Nat} (hi : i < o.length) (hk : k < o.length) (e : o.getD i 0 = o.getD k 0) : i = k := by
  rw [getD_get hi, getD_get hk] at e
  have hp := List.pairwise_iff_getElem.1 h.nd
  rcases Nat.lt_trichotomy i k with g | g | g
  · exact absurd e (hp i k hi hk g)
  · exact g
  · exact absurd e.symm (hp k i hk hi g)
theorem IsOrd.mem {n : Nat} {o : List Nat} (h : IsOrd n o) {m : Nat} (hm : m < n) : ∃ i, i < o.length ∧ o.getD i 0 = m := by
  have hmo : m ∈ o := Classical.byContradiction fun g => by
    have := nodup_length_le (m := List.range n) (List.nodup_cons.2 ⟨g, h.nd⟩) (fun x hx => by
      rcases List.mem_cons.1 hx with rfl | hx
      · exact List.mem_range.2 hm
      · exact List.mem_range.2 (h.lt x hx))
    simp [h.len] at this
    omega
  obtain ⟨i, hi, e⟩ := List.getElem_of_mem hmo
  exact ⟨i, hi, by rw [getD_get hi, e]⟩
theorem mem_take {o : List Nat} {i m : Nat} (hi : i ≤ o.length) : m ∈ o.take i ↔ ∃ k, k < i ∧ o.getD k 0 = m := by
  constructor
  · intro h
    obtain ⟨k, hk, e⟩ := List.getElem_of_mem h
    simp only [List.length_take] at hk
    rw [List.getElem_take] at e
    exact ⟨k, by omega, by rw [getD_get (by omega), e]⟩
  · rintro ⟨k, hk, rfl⟩
    rw [getD_get (by omega)]
    have : k < (o.take i).length := by simp; omega
    rw [show o[k] = (o.take i)[k] from (List.getElem_take ..).symm]
    exact List.getElem_mem this
theorem take_cnt_mono {o : List Nat} {i j : Nat} (h : i ≤ j) (p : Nat → Bool) : ((o.take i).filter p).length ≤ ((o.take j).filter p).length := by
  have e : o.take j = o.take i ++ (o.drop i).take (j - i) := by
    conv => lhs; rw [show j = i + (j - i) by omega]
    rw [List.take_add]
  rw [e, List.filter_append, List.length_append]
  omega
theorem filter_ge {n : Nat} {o : List Nat} (h : IsOrd n o) {i : Nat} (hi : i < o.length) {j : Nat} (hj : j ≤ i) : ((o.take j).filter fun b => decide (o.getD i 0 ≤ b)) = (o.take j).filter fun b => decide (o.getD i 0 < b) := by
  apply List.filter_congr
  intro b hb
  obtain ⟨k, hk, rfl⟩ := (mem_take (by omega)).1 hb
  have : o.getD k 0 ≠ o.getD i 0 := fun e => by have := h.inj (by omega) hi e; omega
  simp only [decide_eq_decide]
  omega
theorem filter_last {o : List Nat} {j : Nat} (hj : j ≤ o.length) (p : Nat → Bool) (h : ((o.take j).filter p).length ≠ 0) : ∃ i, i < j ∧ p (o.getD i 0) = true ∧ ((o.take i).filter p).length + 1 = ((o.take j).filter p).length := by
  induction j with
  | zero => simp at h
  | succ j ih =>
    have e : o.take (j + 1) = o.take j ++ [o.getD j 0] := by rw [List.take_succ_eq_append_getElem (by omega), getD_get (by omega)]
    rw [e, List.filter_append] at h ⊢
    by_cases hp : p (o.getD j 0) = true
    · refine ⟨j, by omega, hp, ?_⟩
      simp only [List.filter_cons, hp, if_true, List.filter_nil, List.length_append, List.length_singleton]
    · simp only [List.filter_cons, hp, Bool.false_eq_true, if_false, List.filter_nil, List.append_nil] at h ⊢
      obtain ⟨i, h1, h2, h3⟩ := ih (by omega) h
      exact ⟨i, by omega, h2, h3⟩
theorem allP_iff {n p : Nat} {od : Nat → Prop} {o : List Nat} (h : IsOrd n o) : AllP n p od o ↔ AllR p od o := by
  constructor
  · intro hP i hi
    have hge := filter_ge h hi (Nat.le_refl i)
    constructor
    · intro k hk hle
      have hlt : o.getD i 0 < o.getD k 0 := by
        rcases Nat.lt_or_eq_of_le hle with g | g
        · exact g
        · have := h.inj (by omega) (by omega) g; omega
      have hnm : o.getD i 0 ∉ o.take k := fun g => by
        obtain ⟨k', h1, h2⟩ := (mem_take (by omega)).1 g
        have := h.inj (by omega) hi h2; omega
      have hlt2 : o.getD i 0 < n := by rw [getD_get hi]; exact h.lt _ (List.getElem_mem hi)
      have := hP k (by omega) _ hlt2 hlt hnm
      exact ⟨this.2.2, this.2.1⟩
    · rw [hge]
      by_cases h0 : ((o.take i).filter fun b => decide (o.getD i 0 < b)).length = 0
      · omega
      · obtain ⟨k, hk, h1, h2⟩ := filter_last (by omega) _ h0
        have hlt : o.getD i 0 < o.getD k 0 := by simpa using h1
        have hnm : o.getD i 0 ∉ o.take k := fun g => by
          obtain ⟨k', h1, h2⟩ := (mem_take (by omega)).1 g
          have := h.inj (by omega) hi h2; omega
        have hlt2 : o.getD i 0 < n := by rw [getD_get hi]; exact h.lt _ (List.getElem_mem hi)
        have := (hP k (by omega) _ hlt2 hlt hnm).1
        unfold cntGt at this
        omega
  · intro hR i hi m hm hmr hnm
    obtain ⟨j, hj, rfl⟩ := h.mem hm
    have hij : i < j := by
      rcases Nat.lt_trichotomy i j with g | g | g
      · exact g
      · subst g; omega
      · exact absurd ((mem_take (by omega)).2 ⟨j, g, rfl⟩) hnm
    obtain ⟨h1, h2⟩ := hR j hj
    have h3 := h1 i hij (by omega)
    refine ⟨?_, h3.2, h3.1⟩
    rw [filter_ge h hj (Nat.le_refl j)] at h2
    have h4 := take_cnt_mono (o := o) (show i + 1 ≤ j by omega) (fun b => decide (o.getD j 0 < b))
    have e : o.take (i + 1) = o.take i ++ [o.getD i 0] := by rw [List.take_succ_eq_append_getElem (by omega), getD_get (by omega)]
    rw [e, List.filter_append, List.length_append] at h4
    simp only [List.filter_cons, hmr, decide_true, if_true, List.filter_nil, List.length_singleton] at h4
    unfold cntGt
    omega
open Classical in
noncomputable def dfsQ (n p : Nat) (od : Nat → Prop) : Nat → List Nat → List (List Nat)
  | 0, b => [b]
  | m + 1, b => (List.range n).flatMap fun k => if k ∈ b then [] else if FitsQ n p od b k then dfsQ n p od m (b ++ [k]) else []
def ordsQ (n : Nat) : Nat → List Nat → List (List Nat)
  | 0, b => [b]
  | m + 1, b => (List.range n).flatMap fun k => if k ∈ b then [] else ordsQ n m (b ++ [k])
theorem allP_snoc {n p : Nat} {od : Nat → Prop} {b : List Nat} {k : Nat} : AllP n p od (b ++ [k]) ↔ AllP n p od b ∧ FitsQ n p od b k := by
  constructor
  · intro h
    refine ⟨fun i hi => ?_, ?_⟩
    · have := h i (by simp; omega)
      rwa [List.take_append_of_le_length (by omega), List.getD_eq_getElem?_getD, List.getElem?_append_left hi, ← List.getD_eq_getElem?_getD] at this
    · have := h b.length (by simp)
      rwa [List.take_append_of_le_length (by omega), List.take_length, List.getD_eq_getElem?_getD, List.getElem?_append_right (by omega), Nat.sub_self] at this
  · rintro ⟨h, hf⟩ i hi
    simp only [List.length_append, List.length_singleton] at hi
    rcases Nat.lt_or_eq_of_le (show i ≤ b.length by omega) with g | rfl
    · have := h i g
      rwa [List.take_append_of_le_length (by omega), List.getD_eq_getElem?_getD, List.getElem?_append_left g, ← List.getD_eq_getElem?_getD]
    · rwa [List.take_append_of_le_length (by omega), List.take_length, List.getD_eq_getElem?_getD, List.getElem?_append_right (by omega), Nat.sub_self]
theorem ords_pre (n : Nat) : ∀ (m : Nat) (b o : List Nat), o ∈ ordsQ n m b → b <+: o ∧ o.length = b.length + m
  | 0, b, o, h => by simp only [ordsQ, List.mem_singleton] at h; subst h; exact ⟨List.prefix_rfl, rfl⟩
  | m + 1, b, o, h => by
    simp only [ordsQ, List.mem_flatMap] at h
    obtain ⟨k, _, h⟩ := h
    split at h
    · simp at h
    · obtain ⟨h1, h2⟩ := ords_pre n m _ o h
      refine ⟨(List.prefix_append b [k]).trans h1, ?_⟩
      rw [h2, List.length_append, List.length_singleton]
      omega
theorem allP_pre {n p : Nat} {od : Nat → Prop} {b o : List Nat} (h : b <+: o) (ho : AllP n p od o) : AllP n p od b := by
  obtain ⟨t, rfl⟩ := h
  intro i hi
  have := ho i (by simp; omega)
  rwa [List.take_append_of_le_length (by omega), List.getD_eq_getElem?_getD, List.getElem?_append_left hi, ← List.getD_eq_getElem?_getD] at this
open Classical in
theorem ords_filter (n p : Nat) (od : Nat → Prop) : ∀ (m : Nat) (b : List Nat), AllP n p od b → (ordsQ n m b).filter (fun o => decide (AllP n p od o)) = dfsQ n p od m b
  | 0, b, h => by simp [ordsQ, dfsQ, h]
  | m + 1, b, h => by
    unfold ordsQ dfsQ
    rw [List.filter_flatMap]
    congr 1
    funext k
    split
    · rfl
    · split
      · rename_i hf
        exact ords_filter n p od m _ (allP_snoc.2 ⟨h, hf⟩)
      · rename_i hf
        rw [List.filter_eq_nil_iff]
        intro o ho
        simp only [decide_eq_true_eq]
        intro ha
        exact hf (allP_snoc.1 (allP_pre (ords_pre n m _ o ho).1 ha)).2
theorem ords_ord {n : Nat} : ∀ {m : Nat} {b o : List Nat}, o ∈ ordsQ n m b → b.Nodup → (∀ x ∈ b, x < n) → b.length + m = n → IsOrd n o
  | 0, b, o, h, h1, h2, h3 => by
    simp only [ordsQ, List.mem_singleton] at h
    subst h
    exact ⟨by omega, h1, h2⟩
  | m + 1, b, o, h, h1, h2, h3 => by
    simp only [ordsQ, List.mem_flatMap] at h
    obtain ⟨k, hk, h⟩ := h
    split at h
    · simp at h
    · rename_i hkb
      refine ords_ord h ?_ ?_ (by rw [List.length_append, List.length_singleton]; omega)
      · rw [List.nodup_append]
        refine ⟨h1, by simp, fun a ha c hc => ?_⟩
        simp only [List.mem_singleton] at hc
        subst hc
        exact fun e => hkb (e ▸ ha)
      · intro x hx
        rcases List.mem_append.1 hx with g | g
        · exact h2 x g
        · rw [List.mem_singleton.1 g]; exact List.mem_range.1 hk
theorem mem_ords {n : Nat} {o : List Nat} (h : IsOrd n o) : ∀ m, m ≤ n → o ∈ ordsQ n m (o.take (n - m))
  | 0, _ => by
    simp only [ordsQ, List.mem_singleton, Nat.sub_zero]
    rw [List.take_of_length_le (by rw [h.len]; omega)]
  | m + 1, hm => by
    have ih := mem_ords h m (by omega)
    simp only [ordsQ, List.mem_flatMap]
    have hi : n - (m + 1) < o.length := by rw [h.len]; omega
    refine ⟨o.getD (n - (m + 1)) 0, List.mem_range.2 (by rw [getD_get hi]; exact h.lt _ (List.getElem_mem hi)), ?_⟩
    rw [if_neg]
    · have e : o.take (n - (m + 1)) ++ [o.getD (n - (m + 1)) 0] = o.take (n - m) := by
        rw [show n - m = n - (m + 1) + 1 by omega, List.take_succ_eq_append_getElem hi, getD_get hi]
      rw [e]
      exact ih
    · intro g
      obtain ⟨k, h1, h2⟩ := (mem_take (by omega)).1 g
      have := h.inj (by omega) hi h2
      omega
noncomputable def allQ (n p : Nat) (od : Nat → Prop) : List (List Nat) := dfsQ n p od n []
theorem allQ_eq (n p : Nat) (od : Nat → Prop) [DecidablePred (AllP n p od)] : allQ n p od = (ordsQ n n []).filter (fun o => decide (AllP n p od o)) := by
  have := ords_filter n p od n [] (fun i hi => by simp at hi)
  rw [allQ, ← this]
  congr 1
  funext o
  simp only [decide_eq_decide]
theorem mem_allQ {n p : Nat} {od : Nat → Prop} {o : List Nat} : o ∈ allQ n p od ↔ IsOrd n o ∧ AllP n p od o := by
  classical
  rw [allQ_eq, List.mem_filter]
  simp only [decide_eq_true_eq]
  constructor
  · rintro ⟨h1, h2⟩
    exact ⟨ords_ord h1 (by simp) (by simp) (by simp), h2⟩
  · rintro ⟨h1, h2⟩
    refine ⟨?_, h2⟩
    have := mem_ords h1 n (Nat.le_refl n)
    simpa using this
theorem range_ord (n : Nat) : IsOrd n (List.range n) := ⟨by simp, List.nodup_range, fun x hx => List.mem_range.1 hx⟩
theorem range_all (n p : Nat) (od : Nat → Prop) : AllP n p od (List.range n) := by
  intro i hi m hm hmr hnm
  simp only [List.length_range] at hi
  have e : (List.range n).getD i 0 = i := by simp [List.getD_eq_getElem?_getD, hi]
  rw [e] at hmr
  exact absurd ((mem_take (by simp; omega)).2 ⟨m, hmr, by simp [List.getD_eq_getElem?_getD, hm]⟩) hnm
end Go.Proofs

namespace Go.Proofs
open Go Go.Sx
set_option maxHeartbeats 1000000
structure Dk where
  H : Int
  T : Int
  Z : List (Int × Int)
  hk : Int
  ck : Int
  hs : Int × Int
  cs : Int × Int
namespace Dk
def SpanOk (s : Int × Int) : Prop := 0 ≤ s.1 ∧ s.1 ≤ s.2 ∧ s.2 ≤ 2000
structure Ok (d : Dk) : Prop where
  h : 1 ≤ d.H ∧ d.H ≤ 4
  t : 1 ≤ d.T ∧ d.T ≤ 1000
  z : 1 ≤ d.Z.length ∧ d.Z.length ≤ 4
  hk : 0 ≤ d.hk ∧ d.hk ≤ d.T - 1
  ck : 0 ≤ d.ck ∧ d.ck ≤ d.T - 1
  hs : SpanOk d.hs
  cs : SpanOk d.cs
  zone : ∀ z ∈ d.Z, (1 ≤ z.1 ∧ z.1 ≤ 20) ∧ (1 ≤ z.2 ∧ z.2 ≤ 16) ∧ d.T % z.2 = 0
def S (d : Dk) : List Nat := d.Z.flatMap fun z => List.replicate z.1.toNat z.2.toNat
def cnt (d : Dk) : Nat := d.H.toNat * d.S.sum
def off (d : Dk) (c h : Nat) : Int := (c * d.ck + (c * (d.H - 1) + h) * d.hk) % d.T
def ang (d : Dk) (n : Nat) : Int :=
  let p := loc d.H.toNat d.S n
  (d.off p.1 p.2.1 + p.2.2 * (d.T / (d.S.getD p.1 0 : Nat))) % d.T
def gapOf (d : Dk) (skew ticks : Int) : Int := ticks + ((skew - ticks) % d.T + d.T) % d.T
def gapK (d : Dk) (hi : Bool) (k : Nat) : Int :=
  if k = 1 then d.gapOf d.hk (if hi then d.hs.2 else d.hs.1) else if k = 2 then d.gapOf d.ck (if hi then d.cs.2 else d.cs.1) else 0
def run (d : Dk) (hi : Bool) (fr ct : Nat) : Int :=
  sumR (durS d.H.toNat d.S d.T) fr ct + sumR (fun i => d.gapK hi (kindS d.H.toNat d.S i)) (fr + 1) (ct - 1)
def Spre (d : Dk) (i k : Nat) : List Nat := (d.Z.take i).flatMap (fun z => List.replicate z.1.toNat z.2.toNat) ++ List.replicate k (d.Z.getD i (0, 0)).2.toNat
theorem Spre_zero (d : Dk) : d.Spre 0 0 = [] := by simp [Spre]
theorem Spre_all (d : Dk) : d.Spre d.Z.length 0 = d.S := by simp [Spre, S]
theorem Spre_succ (d : Dk) (i k : Nat) : d.Spre i (k + 1) = d.Spre i k ++ [(d.Z.getD i (0, 0)).2.toNat] := by
  unfold Spre
  rw [List.replicate_succ', List.append_assoc]
theorem Spre_zone (d : Dk) (i : Nat) (hi : i < d.Z.length) : d.Spre (i + 1) 0 = d.Spre i (d.Z.getD i (0, 0)).1.toNat := by
  unfold Spre
  rw [List.take_succ_eq_append_getElem hi, List.flatMap_append]
  simp [List.getD_eq_getElem?_getD, hi]
theorem Spre_prefix (d : Dk) (i k : Nat) (hi : i < d.Z.length) (hk : k ≤ (d.Z.getD i (0, 0)).1.toNat) : d.Spre i k <+: d.S := by
  have e : d.S = d.Spre i k ++ (List.replicate ((d.Z.getD i (0, 0)).1.toNat - k) (d.Z.getD i (0, 0)).2.toNat ++ (d.Z.drop (i + 1)).flatMap (fun z => List.replicate z.1.toNat z.2.toNat)) := by
    unfold S Spre
    conv => lhs; rw [← List.take_append_drop i d.Z]
    rw [List.flatMap_append, List.append_assoc, List.drop_eq_getElem_cons hi, List.flatMap_cons]
    rw [← List.append_assoc (List.replicate k _), List.replicate_append_replicate]
    rw [show d.Z[i] = d.Z.getD i (0, 0) by simp [List.getD_eq_getElem?_getD, hi]]
    rw [show k + ((d.Z.getD i (0, 0)).1.toNat - k) = (d.Z.getD i (0, 0)).1.toNat by omega]
  rw [e]
  exact List.prefix_append _ _
theorem Spre_get (d : Dk) (i k : Nat) (hi : i < d.Z.length) (hk : k < (d.Z.getD i (0, 0)).1.toNat) : (d.Spre i k).length < d.S.length ∧ d.S.getD (d.Spre i k).length 0 = (d.Z.getD i (0, 0)).2.toNat ∧ d.S.take (d.Spre i k).length = d.Spre i k := by
  obtain ⟨t, ht⟩ := d.Spre_prefix i (k + 1) hi hk
  rw [Spre_succ, List.append_assoc] at ht
  rw [← ht]
  refine ⟨by simp, ?_, by simp⟩
  simp [List.getD_eq_getElem?_getD]
theorem zone_at {d : Dk} (hd : d.Ok) {i : Nat} (hi : i < d.Z.length) : (1 ≤ (d.Z.getD i (0, 0)).1 ∧ (d.Z.getD i (0, 0)).1 ≤ 20) ∧ (1 ≤ (d.Z.getD i (0, 0)).2 ∧ (d.Z.getD i (0, 0)).2 ≤ 16) ∧ d.T % (d.Z.getD i (0, 0)).2 = 0 := by
  rw [show d.Z.getD i (0, 0) = d.Z[i] by simp [List.getD_eq_getElem?_getD, hi]]
  exact hd.zone _ (List.getElem_mem hi)
theorem S_pos {d : Dk} (hd : d.Ok) : ∀ a ∈ d.S, 0 < a ∧ a ≤ 16 := by
  intro a ha
  unfold S at ha
  obtain ⟨z, hz, ha⟩ := List.mem_flatMap.1 ha
  have := hd.zone z hz
  rw [(List.mem_replicate.1 ha).2]
  omega
theorem Sl_aux : ∀ (Z : List (Int × Int)), (∀ z ∈ Z, z.1 ≤ 20 ∧ z.2 ≤ 16) → (Z.flatMap fun z => List.replicate z.1.toNat z.2.toNat).length ≤ 20 * Z.length ∧ (Z.flatMap fun z => List.replicate z.1.toNat z.2.toNat).sum ≤ 320 * Z.length
  | [], _ => by simp
  | z :: Z, h => by
    have ih := Sl_aux Z (fun z hz => h z (List.mem_cons_of_mem _ hz))
    have hz := h z List.mem_cons_self
    simp only [List.flatMap_cons, List.length_append, List.length_replicate, List.sum_append, List.sum_replicate_nat, List.length_cons]
    have : z.1.toNat * z.2.toNat ≤ 20 * 16 := Nat.mul_le_mul (by omega) (by omega)
    omega
theorem S_len {d : Dk} (hd : d.Ok) : d.S.length ≤ 80 ∧ d.S.sum ≤ 1280 := by
  have := Sl_aux d.Z (fun z hz => by have := hd.zone z hz; omega)
  have := hd.z
  unfold S
  omega
theorem cnt_le {d : Dk} (hd : d.Ok) : d.cnt ≤ 5120 := by
  have := (S_len hd).2
  have h := hd.h
  have : d.cnt ≤ 4 * 1280 := Nat.mul_le_mul (by omega) this
  omega
end Dk
end Go.Proofs

namespace Go.Proofs
open Go Go.Sx
set_option maxHeartbeats 1000000
def nextT (T a t : Int) : Int := t + ((a - t) % T + T) % T
theorem nextT_eq {T : Int} (a t : Int) : nextT T a t = t + (a - t) % T := by
  unfold nextT
  rw [Int.add_emod_right, Int.emod_emod_of_dvd _ (Int.dvd_refl T)]
theorem nextT_bnd {T : Int} (hT : 0 < T) (a t : Int) : t ≤ nextT T a t ∧ nextT T a t < t + T := by
  rw [nextT_eq]
  have := Int.emod_nonneg (a - t) (show T ≠ 0 by omega)
  have := Int.emod_lt_of_pos (a - t) hT
  omega
theorem nextT_mono {T : Int} (hT : 0 < T) (a : Int) {t u : Int} (h : t ≤ u) : nextT T a t ≤ nextT T a u := by
  have h1 := nextT_bnd hT a t
  have h2 := nextT_bnd hT a u
  have e1 : nextT T a t = a - T * ((a - t) / T) := by rw [nextT_eq]; have := Int.mul_ediv_add_emod (a - t) T; omega
  have e2 : nextT T a u = a - T * ((a - u) / T) := by rw [nextT_eq]; have := Int.mul_ediv_add_emod (a - u) T; omega
  rcases Int.lt_or_le (nextT T a u) (nextT T a t) with g | g
  · exfalso
    have h3 : T * ((a - t) / T) < T * ((a - u) / T) := by omega
    have h4 : (a - t) / T < (a - u) / T := Int.lt_of_mul_lt_mul_left h3 (by omega)
    have h5 : T * ((a - t) / T + 1) ≤ T * ((a - u) / T) := Int.mul_le_mul_of_nonneg_left (by omega) (by omega)
    rw [Int.mul_add, Int.mul_one] at h5
    omega
  · exact g
theorem tmod_fix {T x : Int} (hT : 0 < T) : (x.tmod T + T).tmod T = (x % T + T) % T := by
  have h1 : 0 ≤ x.tmod T + T := by
    have := Int.lt_tmod_of_pos x hT
    omega
  rw [Int.tmod_eq_emod_of_nonneg h1, Int.add_emod_right, Int.add_emod_right, Int.emod_emod_of_dvd _ (Int.dvd_refl T)]
  have e := Int.mul_tdiv_add_tmod x T
  conv => rhs; rw [← e]
  rw [Int.add_comm, Int.add_mul_emod_self_left]
structure Rq where
  fr : Int
  ct : Int
  t0 : Int
  du : Int
  od : Bool
def Rq.none : Rq := ⟨0, 0, 0, 0, false⟩
structure Qu where
  d : Dk
  cyl : Int
  pas : Int
  sk : List (Int × Int)
  rq : List Rq
namespace Qu
def RqOk (q : Qu) (r : Rq) : Prop := (0 ≤ r.fr ∧ r.fr ≤ q.d.cnt - 1) ∧ (1 ≤ r.ct ∧ r.ct ≤ q.d.cnt - r.fr) ∧ (0 ≤ r.t0 ∧ r.t0 ≤ 10000) ∧ -1 ≤ r.du ∧ r.du ≤ 100000
structure Ok (q : Qu) : Prop where
  d : q.d.Ok
  cyl : 0 ≤ q.cyl ∧ q.cyl ≤ q.d.S.length - 1
  skl : q.sk.length = q.d.S.length
  rql : q.rq.length ≤ 6
  pas : 0 ≤ q.pas ∧ q.pas ≤ 6
  sk : ∀ s ∈ q.sk, 0 ≤ s.1 ∧ s.1 ≤ s.2 ∧ s.2 ≤ 5000
  rq : ∀ r ∈ q.rq, q.RqOk r
  asc : ∀ i, i + 1 < q.rq.length → (q.rq.getD i Rq.none).t0 ≤ (q.rq.getD (i + 1) Rq.none).t0
structure Small (q : Qu) : Prop where
  ok : q.Ok
  cnt : q.d.cnt ≤ 200
  t : q.d.T ≤ 120
  rql : q.rq.length ≤ 4
def req (q : Qu) (r : Nat) : Rq := q.rq.getD r Rq.none
def cy (q : Qu) (n : Int) : Nat := (loc q.d.H.toNat q.d.S n.toNat).1
def sek (q : Qu) (a b : Nat) : Int × Int := q.sk.getD (max (a - b) (b - a)) (0, 0)
def pick (hi : Bool) (s : Int × Int) : Int := if hi then s.2 else s.1
def srv (q : Qu) (r : Nat) (t sk rn : Int) : Int := nextT q.d.T (q.d.ang (q.req r).fr.toNat) (max t (q.req r).t0 + sk) + rn
def rn (q : Qu) (hi : Bool) (r : Nat) : Int := q.d.run hi (q.req r).fr.toNat (q.req r).ct.toNat
def stQ (q : Qu) (hi : Bool) (o : List Nat) : Nat → Nat × Int
  | 0 => (q.cyl.toNat, 0)
  | k + 1 => (q.cy ((q.req (o.getD k 0)).fr + (q.req (o.getD k 0)).ct - 1),
      q.srv (o.getD k 0) (stQ q hi o k).2 (pick hi (q.sek (stQ q hi o k).1 (q.cy (q.req (o.getD k 0)).fr))) (q.rn hi (o.getD k 0)))
def endOf (q : Qu) (hi : Bool) (o : List Nat) (r : Nat) : Int := if r ∈ o then (q.stQ hi o (o.idxOf r + 1)).2 else 0
theorem stQ_cyl (q : Qu) (o : List Nat) : ∀ k, (q.stQ true o k).1 = (q.stQ false o k).1
  | 0 => rfl
  | _ + 1 => rfl
theorem stQ_congr (q : Qu) (hi : Bool) {o o' : List Nat} : ∀ k, (∀ i, i < k → o.getD i 0 = o'.getD i 0) → q.stQ hi o k = q.stQ hi o' k
  | 0, _ => rfl
  | k + 1, h => by
    unfold stQ
    rw [stQ_congr q hi k (fun i hi => h i (by omega)), h k (by omega)]
end Qu
namespace Dk
theorem gap_mono (d : Dk) (hT : 0 < d.T) (s : Int) {a b : Int} (h : a ≤ b) : d.gapOf s a ≤ d.gapOf s b := nextT_mono hT s h
theorem gap_bnd (d : Dk) (hT : 0 < d.T) (s a : Int) : a ≤ d.gapOf s a ∧ d.gapOf s a < a + d.T := nextT_bnd hT s a
theorem gapK_le {d : Dk} (hd : d.Ok) (k : Nat) : 0 ≤ d.gapK false k ∧ d.gapK false k ≤ d.gapK true k ∧ d.gapK true k ≤ 3000 := by
  have ht := hd.t
  have h1 := hd.hs
  have h2 := hd.cs
  unfold SpanOk at h1 h2
  have hT : 0 < d.T := by omega
  unfold gapK
  split
  · have := d.gap_mono hT d.hk h1.2.1
    have := d.gap_bnd hT d.hk d.hs.1
    have := d.gap_bnd hT d.hk d.hs.2
    simp only [if_true, Bool.false_eq_true, if_false]
    omega
  · split
    · have := d.gap_mono hT d.ck h2.2.1
      have := d.gap_bnd hT d.ck d.cs.1
      have := d.gap_bnd hT d.ck d.cs.2
      simp only [if_true, Bool.false_eq_true, if_false]
      omega
    · omega
theorem sumR_bnd (f : Nat → Int) (v : Int) (a : Nat) (h : ∀ i, 0 ≤ f i ∧ f i ≤ v) : ∀ m : Nat, 0 ≤ sumR f a m ∧ sumR f a m ≤ m * v
  | 0 => by simp [sumR]
  | m + 1 => by
    have ih := sumR_bnd f v a h m
    have := h (a + m)
    show 0 ≤ sumR f a m + f (a + m) ∧ sumR f a m + f (a + m) ≤ _
    push_cast
    rw [Int.add_mul, Int.one_mul]
    omega
theorem dur_bnd {d : Dk} (hd : d.Ok) (n : Nat) : 0 ≤ durS d.H.toNat d.S d.T n ∧ durS d.H.toNat d.S d.T n ≤ 1000 := by
  have ht := hd.t
  unfold durS
  refine ⟨Int.ediv_nonneg (by omega) (by omega), ?_⟩
  exact Int.le_trans (Int.ediv_le_self _ (by omega)) (by omega)
theorem run_bnd {d : Dk} (hd : d.Ok) (fr ct : Nat) (hct : ct ≤ 6000) : 0 ≤ d.run false fr ct ∧ d.run false fr ct ≤ d.run true fr ct ∧ d.run true fr ct ≤ 24000000 := by
  have h1 := sumR_bnd _ 1000 fr (dur_bnd hd) ct
  have h2 := sumR_bnd (fun i => d.gapK false (kindS d.H.toNat d.S i)) 3000 (fr + 1) (fun i => by have := gapK_le hd (kindS d.H.toNat d.S i); omega) (ct - 1)
  have h3 := sumR_bnd (fun i => d.gapK true (kindS d.H.toNat d.S i)) 3000 (fr + 1) (fun i => by have := gapK_le hd (kindS d.H.toNat d.S i); omega) (ct - 1)
  have h4 := sumR_le (f := fun i => d.gapK false (kindS d.H.toNat d.S i)) (g := fun i => d.gapK true (kindS d.H.toNat d.S i)) (a := fr + 1) (ct - 1) (fun i => (gapK_le hd _).2.1)
  unfold run
  have e : ((ct - 1 : Nat) : Int) ≤ 6000 := by omega
  have e2 : (ct : Int) ≤ 6000 := by omega
  omega
end Dk
namespace Qu
theorem req_mem {q : Qu} {r : Nat} (h : r < q.rq.length) : q.req r ∈ q.rq := by
  unfold req
  rw [show q.rq.getD r Rq.none = q.rq[r] by simp [List.getD_eq_getElem?_getD, h]]
  exact List.getElem_mem h
theorem cy_lt {q : Qu} {n : Int} (h : 0 ≤ n) (h2 : n < q.d.cnt) : q.cy n < q.d.S.length := by
  have : n.toNat < q.d.H.toNat * q.d.S.sum := by show n.toNat < q.d.cnt; omega
  exact (at_loc this).1
theorem sek_bnd {q : Qu} (hq : q.Ok) (a b : Nat) : 0 ≤ (q.sek a b).1 ∧ (q.sek a b).1 ≤ (q.sek a b).2 ∧ (q.sek a b).2 ≤ 5000 := by
  unfold sek
  by_cases h : max (a - b) (b - a) < q.sk.length
  · rw [show q.sk.getD (max (a - b) (b - a)) (0, 0) = q.sk[max (a - b) (b - a)] by simp [List.getD_eq_getElem?_getD, h]]
    exact hq.sk _ (List.getElem_mem h)
  · rw [show q.sk.getD (max (a - b) (b - a)) (0, 0) = (0, 0) by simp [List.getD_eq_getElem?_getD]; rw [List.getElem?_eq_none (by omega)]; simp]
    simp
theorem srv_mono {q : Qu} (hq : q.Ok) (r : Nat) {t t' s s' n n' : Int} (h1 : t ≤ t') (h2 : s ≤ s') (h3 : n ≤ n') : q.srv r t s n ≤ q.srv r t' s' n' := by
  have hT : 0 < q.d.T := by have := hq.d.t; omega
  have := nextT_mono hT (q.d.ang (q.req r).fr.toNat) (show max t (q.req r).t0 + s ≤ max t' (q.req r).t0 + s' by omega)
  unfold srv
  omega
theorem srv_bnd {q : Qu} (hq : q.Ok) {r : Nat} (hr : r < q.rq.length) {t s n : Int} (ht : 0 ≤ t) (hs : 0 ≤ s) (hs2 : s ≤ 5000) (hn : 0 ≤ n) (hn2 : n ≤ 24000000) : t ≤ q.srv r t s n ∧ q.srv r t s n ≤ t + 30000000 := by
  have hT := hq.d.t
  have := nextT_bnd (show 0 < q.d.T by omega) (q.d.ang (q.req r).fr.toNat) (max t (q.req r).t0 + s)
  have hr := hq.rq _ (req_mem hr)
  unfold RqOk at hr
  unfold srv
  omega
theorem rn_bnd {q : Qu} (hq : q.Ok) {r : Nat} (hr : r < q.rq.length) : 0 ≤ q.rn false r ∧ q.rn false r ≤ q.rn true r ∧ q.rn true r ≤ 24000000 := by
  have hr := hq.rq _ (req_mem hr)
  have := q.d.cnt_le hq.d
  unfold RqOk at hr
  exact Dk.run_bnd hq.d _ _ (by omega)
theorem rn_bndB {q : Qu} (hq : q.Ok) {r : Nat} (hr : r < q.rq.length) (hi : Bool) : 0 ≤ q.rn hi r ∧ q.rn hi r ≤ 24000000 := by
  have := rn_bnd hq hr
  cases hi <;> omega
theorem pick_bnd {q : Qu} (hq : q.Ok) (hi : Bool) (a b : Nat) : 0 ≤ pick hi (q.sek a b) ∧ pick hi (q.sek a b) ≤ 5000 := by
  have := sek_bnd hq a b
  unfold pick
  cases hi <;> simp <;> omega
theorem stQ_bnd {q : Qu} (hq : q.Ok) (hi : Bool) {o : List Nat} (ho : ∀ x ∈ o, x < q.rq.length) : ∀ k, k ≤ o.length → (q.stQ hi o k).1 < q.d.S.length ∧ 0 ≤ (q.stQ hi o k).2 ∧ (q.stQ hi o k).2 ≤ k * 30000000
  | 0, _ => by
    have := hq.cyl
    unfold stQ
    refine ⟨by dsimp only; omega, by simp, by simp⟩
  | k + 1, hk => by
    have ih := stQ_bnd hq hi ho k (by omega)
    have hr : o.getD k 0 < q.rq.length := by rw [getD_get (by omega)]; exact ho _ (List.getElem_mem _)
    have hok := hq.rq _ (req_mem hr)
    have hrn := rn_bndB hq hr hi
    unfold RqOk at hok
    unfold stQ
    have hp := pick_bnd hq hi (q.stQ hi o k).1 (q.cy (q.req (o.getD k 0)).fr)
    have := srv_bnd hq hr ih.2.1 hp.1 hp.2 hrn.1 hrn.2
    refine ⟨cy_lt (by omega) (by omega), by dsimp only; omega, ?_⟩
    dsimp only
    push_cast
    rw [Int.add_mul]
    omega
theorem stQ_le {q : Qu} (hq : q.Ok) {o : List Nat} (ho : ∀ x ∈ o, x < q.rq.length) : ∀ k, k ≤ o.length → (q.stQ false o k).2 ≤ (q.stQ true o k).2
  | 0, _ => Int.le_refl _
  | k + 1, hk => by
    have ih := stQ_le hq ho k (by omega)
    have hr : o.getD k 0 < q.rq.length := by rw [getD_get (by omega)]; exact ho _ (List.getElem_mem _)
    unfold stQ
    rw [stQ_cyl]
    refine srv_mono hq _ ih ?_ (rn_bnd hq hr).2.1
    exact (sek_bnd hq _ _).2.1
end Qu
end Go.Proofs

namespace Go.Proofs
open Go Go.Sx
set_option maxHeartbeats 1000000
theorem IsOrd.perm {n : Nat} {o : List Nat} (h : IsOrd n o) : o.Perm (List.range n) :=
  (List.perm_ext_iff_of_nodup h.nd List.nodup_range).2 fun m => ⟨fun hm => List.mem_range.2 (h.lt m hm), fun hm => by
    obtain ⟨i, hi, rfl⟩ := h.mem (List.mem_range.1 hm)
    rw [getD_get hi]
    exact List.getElem_mem hi⟩
theorem idxOf_getD {n : Nat} {o : List Nat} (h : IsOrd n o) {i : Nat} (hi : i < o.length) : o.idxOf (o.getD i 0) = i := by
  have hm : o.getD i 0 ∈ o := by rw [getD_get hi]; exact List.getElem_mem hi
  have h1 := List.idxOf_lt_length_of_mem hm
  refine h.inj h1 hi ?_
  rw [getD_get h1, List.getElem_idxOf]
namespace Qu
def n (q : Qu) : Nat := q.rq.length
def od (q : Qu) (r : Nat) : Prop := (q.req r).od = true
noncomputable def all (q : Qu) (p : Int) : List (List Nat) := allQ q.n p.toNat q.od
def isLate (q : Qu) (o : List Nat) (r : Nat) : Prop := 0 ≤ (q.req r).du ∧ (q.req r).du < q.endOf true o r
instance (q : Qu) (o : List Nat) (r : Nat) : Decidable (q.isLate o r) := inferInstanceAs (Decidable (_ ∧ _))
def lateTo (q : Qu) (o : List Nat) : Nat → Int
  | 0 => 0
  | k + 1 => lateTo q o k + if q.isLate o k then 1 else 0
def lateAt (q : Qu) (o : List Nat) : Nat → Int
  | 0 => 0
  | k + 1 => lateAt q o k + if q.isLate o (o.getD k 0) then 1 else 0
def lateC (q : Qu) (o : List Nat) : Int := q.lateTo o q.n
def endC (q : Qu) (o : List Nat) : Int := (q.stQ true o o.length).2
theorem lateTo_count (q : Qu) (o : List Nat) : ∀ k, q.lateTo o k = ((List.range k).countP fun r => decide (q.isLate o r) : Nat)
  | 0 => rfl
  | k + 1 => by
    rw [List.range_succ, List.countP_append]
    unfold lateTo
    rw [lateTo_count q o k]
    by_cases h : q.isLate o k <;> simp [h]
theorem lateAt_count (q : Qu) (o : List Nat) : ∀ k, k ≤ o.length → q.lateAt o k = ((o.take k).countP fun r => decide (q.isLate o r) : Nat)
  | 0, _ => rfl
  | k + 1, hk => by
    rw [List.take_succ_eq_append_getElem (by omega), List.countP_append]
    unfold lateAt
    rw [lateAt_count q o k (by omega), getD_get (by omega)]
    by_cases h : q.isLate o o[k] <;> simp [h]
theorem late_eq {q : Qu} {o : List Nat} (h : IsOrd q.n o) : q.lateAt o o.length = q.lateC o := by
  unfold lateC
  rw [lateAt_count q o _ (Nat.le_refl _), List.take_length, lateTo_count, h.perm.countP_eq]
theorem lateTo_bnd (q : Qu) (o : List Nat) : ∀ k : Nat, 0 ≤ q.lateTo o k ∧ q.lateTo o k ≤ k
  | 0 => by simp [lateTo]
  | k + 1 => by
    have := lateTo_bnd q o k
    unfold lateTo
    split <;> omega
theorem lateAt_bnd (q : Qu) (o : List Nat) : ∀ k : Nat, 0 ≤ q.lateAt o k ∧ q.lateAt o k ≤ k
  | 0 => by simp [lateAt]
  | k + 1 => by
    have := lateAt_bnd q o k
    unfold lateAt
    split <;> omega
theorem endOf_at {q : Qu} (hi : Bool) {o : List Nat} (h : IsOrd q.n o) {i : Nat} (hl : i < o.length) : q.endOf hi o (o.getD i 0) = (q.stQ hi o (i + 1)).2 := by
  unfold endOf
  rw [if_pos (by rw [getD_get hl]; exact List.getElem_mem hl), idxOf_getD h hl]
def stepB (q : Qu) (s : List Nat × Int × Int) (o : List Nat) : List Nat × Int × Int :=
  if q.lateC o < s.2.1 ∨ q.lateC o = s.2.1 ∧ q.endC o < s.2.2 then (o, q.lateC o, q.endC o) else s
def foldB (q : Qu) (s : List Nat × Int × Int) (L : List (List Nat)) : List Nat × Int × Int := L.foldl q.stepB s
noncomputable def best (q : Qu) (p : Int) : List Nat × Int × Int := q.foldB ([], q.n + 1, 0) (q.all p)
theorem all_ne (q : Qu) (p : Int) : q.all p ≠ [] := List.ne_nil_of_mem (mem_allQ.2 ⟨range_ord q.n, range_all _ _ _⟩)
theorem all_ord {q : Qu} {p : Int} {o : List Nat} (h : o ∈ q.all p) : IsOrd q.n o := (mem_allQ.1 h).1
theorem best_head {q : Qu} {p : Int} {o : List Nat} {L : List (List Nat)} (h : q.all p = o :: L) : q.best p = q.foldB (o, q.lateC o, q.endC o) (q.all p) := by
  unfold best foldB
  rw [h, List.foldl_cons, List.foldl_cons]
  congr 1
  have h1 := (lateTo_bnd q o q.n).2
  have e1 : q.stepB ([], (q.n : Int) + 1, 0) o = (o, q.lateC o, q.endC o) := by
    unfold stepB
    rw [if_pos]
    left
    show q.lateTo o q.n < (q.n : Int) + 1
    omega
  rw [e1]
  unfold stepB
  rw [if_neg]
  dsimp only
  omega
theorem stepB_inv (q : Qu) (s : List Nat × Int × Int) (o : List Nat) (h : s.2.1 = q.lateC s.1 ∧ s.2.2 = q.endC s.1) : (q.stepB s o).2.1 = q.lateC (q.stepB s o).1 ∧ (q.stepB s o).2.2 = q.endC (q.stepB s o).1 := by
  unfold stepB
  split
  · exact ⟨rfl, rfl⟩
  · exact h
def leB (a b : Int × Int) : Prop := a.1 < b.1 ∨ a.1 = b.1 ∧ a.2 ≤ b.2
theorem leB_rfl (a : Int × Int) : leB a a := .inr ⟨rfl, Int.le_refl _⟩
theorem leB_trans {a b c : Int × Int} (h : leB a b) (g : leB b c) : leB a c := by
  unfold leB at *
  omega
theorem stepB_le (q : Qu) (s : List Nat × Int × Int) (o : List Nat) : leB (q.stepB s o).2 s.2 ∧ leB (q.stepB s o).2 (q.lateC o, q.endC o) := by
  unfold stepB
  split
  · rename_i h
    refine ⟨?_, leB_rfl _⟩
    unfold leB
    dsimp only
    omega
  · rename_i h
    refine ⟨leB_rfl _, ?_⟩
    unfold leB
    dsimp only
    omega
theorem foldB_le (q : Qu) : ∀ (L : List (List Nat)) (s : List Nat × Int × Int), leB (q.foldB s L).2 s.2 ∧ ∀ o ∈ L, leB (q.foldB s L).2 (q.lateC o, q.endC o)
  | [], s => ⟨leB_rfl _, by simp⟩
  | o :: L, s => by
    have ih := foldB_le q L (q.stepB s o)
    have h := stepB_le q s o
    show leB (q.foldB (q.stepB s o) L).2 s.2 ∧ _
    refine ⟨leB_trans ih.1 h.1, fun o' ho => ?_⟩
    rcases List.mem_cons.1 ho with rfl | ho
    · exact leB_trans ih.1 h.2
    · exact ih.2 o' ho
theorem foldB_inv (q : Qu) : ∀ (L : List (List Nat)) (s : List Nat × Int × Int), (s.2.1 = q.lateC s.1 ∧ s.2.2 = q.endC s.1) → ((q.foldB s L).2.1 = q.lateC (q.foldB s L).1 ∧ (q.foldB s L).2.2 = q.endC (q.foldB s L).1) ∧ ((q.foldB s L).1 = s.1 ∨ (q.foldB s L).1 ∈ L)
  | [], s, h => ⟨h, .inl rfl⟩
  | o :: L, s, h => by
    have ih := foldB_inv q L (q.stepB s o) (stepB_inv q s o h)
    show ((q.foldB (q.stepB s o) L).2.1 = _ ∧ _) ∧ _
    refine ⟨ih.1, ?_⟩
    rcases ih.2 with g | g
    · have e : (q.stepB s o).1 = s.1 ∨ (q.stepB s o).1 = o := by unfold stepB; split <;> simp
      rcases e with e | e
      · exact .inl (g.trans e)
      · exact .inr (by show (q.foldB (q.stepB s o) L).1 ∈ _; rw [g, e]; exact List.mem_cons_self)
    · exact .inr (List.mem_cons_of_mem _ g)
theorem best_ok (q : Qu) (p : Int) : (q.best p).1 ∈ q.all p ∧ (q.best p).2 = (q.lateC (q.best p).1, q.endC (q.best p).1) ∧ ∀ o ∈ q.all p, leB (q.best p).2 (q.lateC o, q.endC o) := by
  obtain ⟨o, L, h⟩ := List.exists_cons_of_ne_nil (all_ne q p)
  have e := best_head h
  have h1 := foldB_inv q (q.all p) (o, q.lateC o, q.endC o) ⟨rfl, rfl⟩
  have h2 := foldB_le q (q.all p) (o, q.lateC o, q.endC o)
  rw [← e] at h1 h2
  refine ⟨?_, ?_, h2.2⟩
  · rcases h1.2 with g | g
    · rw [g, h]; exact List.mem_cons_self
    · exact g
  · exact Prod.ext h1.1.1 h1.1.2
def maxE (q : Qu) (r : Nat) (b : Int) (L : List (List Nat)) : Int := L.foldl (fun b o => max b (q.endOf true o r)) b
noncomputable def bound (q : Qu) (p : Int) (r : Nat) : Int := q.maxE r 0 (q.all p)
theorem maxE_ge (q : Qu) (r : Nat) : ∀ (L : List (List Nat)) (b : Int), b ≤ q.maxE r b L ∧ (∀ o ∈ L, q.endOf true o r ≤ q.maxE r b L) ∧ (q.maxE r b L = b ∨ ∃ o ∈ L, q.maxE r b L = q.endOf true o r)
  | [], b => ⟨Int.le_refl _, by simp, .inl rfl⟩
  | o :: L, b => by
    obtain ⟨h1, h2, h3⟩ := maxE_ge q r L (max b (q.endOf true o r))
    show b ≤ q.maxE r (max b (q.endOf true o r)) L ∧ _
    refine ⟨by omega, fun o' ho => ?_, ?_⟩
    · rcases List.mem_cons.1 ho with rfl | ho
      · show _ ≤ q.maxE r (max b (q.endOf true o' r)) L
        omega
      · exact h2 o' ho
    · show q.maxE r (max b (q.endOf true o r)) L = b ∨ ∃ o' ∈ o :: L, q.maxE r (max b (q.endOf true o r)) L = _
      rcases h3 with g | ⟨o', g1, g2⟩
      · rw [g]
        by_cases hh : b ≤ q.endOf true o r
        · exact .inr ⟨o, List.mem_cons_self, by omega⟩
        · exact .inl (by omega)
      · exact .inr ⟨o', List.mem_cons_of_mem _ g1, g2⟩
def sure (q : Qu) (p : Int) (r : Nat) : Prop := ∀ o ∈ q.all p, ¬ q.isLate o r
theorem sure_iff (q : Qu) (p : Int) (r : Nat) : q.sure p r ↔ (q.req r).du < 0 ∨ q.bound p r ≤ (q.req r).du := by
  obtain ⟨h1, h2, h3⟩ := maxE_ge q r (q.all p) 0
  unfold sure isLate
  constructor
  · intro h
    rcases Int.lt_or_le (q.req r).du 0 with g | g
    · exact .inl g
    · refine .inr ?_
      show q.maxE r 0 (q.all p) ≤ _
      rcases h3 with e | ⟨o, ho, e⟩
      · omega
      · have := h o ho
        omega
  · rintro h o ho ⟨g1, g2⟩
    have := h2 o ho
    have : q.bound p r = q.maxE r 0 (q.all p) := rfl
    omega
noncomputable def late (q : Qu) (p : Int) : Int := (q.best p).2.1
theorem all_mono {q : Qu} {p p' : Int} (h : p ≤ p') {o : List Nat} (ho : o ∈ q.all p) : o ∈ q.all p' := by
  obtain ⟨h1, h2⟩ := mem_allQ.1 ho
  refine mem_allQ.2 ⟨h1, fun i hi m hm hr hn => ?_⟩
  have := h2 i hi m hm hr hn
  exact ⟨by omega, this.2⟩
theorem best_mono {q : Qu} {p p' : Int} (h : p ≤ p') : leB (q.best p').2 (q.best p).2 := by
  obtain ⟨h1, h2, _⟩ := best_ok q p
  rw [h2]
  exact (best_ok q p').2.2 _ (all_mono h h1)
end Qu
end Go.Proofs

namespace Go.Sx
open Go
variable {P : Program}
theorem callee_frz {g : FuncId} {keep : Bool} {args args' : List V} {R0 : V → Prop} {H : List O} {K : V → List O → Prop} {ps : List Prop} {ids : List Nat} (h : PureC P g keep args' R0)
    (hf : frzL (frzV 8 H) args = some (ps, ids, args')) (hp : ∀ p ∈ ps, p) (hk : ∀ ret, R0 ret → K ret (goneAt ids H)) : Callee P g args H K := by
  unfold Callee
  refine ⟨h.1, fun I η w vals hS hd => ?_⟩
  obtain ⟨s1, m1, st1⟩ := hS.freeze ids
  have hd' : DenL (frzI I η H ids) [] w args' vals :=
    frzL_sound (C := fun id => ∀ e o b, η[id]? = some e → H[id]? = some o → o.has e b → frzI I η H ids b) (fun v v' ps ids x => frzV_sound hS.obj (fun b hb => .inl hb) 8 v v' ps ids x) args args' ps ids vals hf hp
      (fun id hid e o b he ho hb => .inr ⟨id, hid, e, o, he, ho, hb⟩) hd
  refine (h.2 _ w vals s1.ilt hd').mono ?_
  rintro e w' ⟨ret, v, rfl, hr, hden, hpr⟩
  obtain ⟨s2, m2, st2⟩ := s1.pres hpr
  refine ⟨grow (frzI I η H ids) w w', η, goneAt ids H, ret, v, rfl, hk ret hr, s2, ?_, m1.trans m2, st1.trans st2⟩
  refine Den.mono ⟨fun _ _ he _ => by simp at he, fun b hb => ?_, fun _ _ => rfl⟩ _ _ hden
  rcases hb with hb | hb
  · exact .inl hb.2
  · exact .inr hb
theorem callee_newf {g : FuncId} {args args' : List V} {R0 : V → List O → Prop} {H : List O} {K : V → List O → Prop} {ps : List Prop} {ids : List Nat} (h : NewC P g args' R0)
    (hf : frzL (frzV 8 H) args = some (ps, ids, args')) (hp : ∀ p ∈ ps, p) (hk : ∀ ret H', R0 ret H' → goneK ids H fun H => lenK H fun n => force (shV n ret) fun r => appK H (shH n H') fun H2 => K r H2) : Callee P g args H K := by
  unfold Callee
  refine ⟨h.1, fun I η w vals hS hd => ?_⟩
  obtain ⟨s1, m1, st1⟩ := hS.freeze ids
  have hd' : DenL (frzI I η H ids) [] w args' vals :=
    frzL_sound (C := fun id => ∀ e o b, η[id]? = some e → H[id]? = some o → o.has e b → frzI I η H ids b) (fun v v' ps ids x => frzV_sound hS.obj (fun b hb => .inl hb) 8 v v' ps ids x) args args' ps ids vals hf hp
      (fun id hid e o b he ho hb => .inr ⟨id, hid, e, o, he, ho, hb⟩) hd
  refine (h.2 _ w vals s1.ilt hd').mono ?_
  rintro e w' ⟨I', η', H', ret, v, rfl, hr, hS', hden, hst⟩
  obtain ⟨t1, t2, t3⟩ := s1.join hS' hst
  have := hk ret H' hr
  rw [goneK_eq, lenK_eq, force_eq, appK_eq] at this
  exact ⟨I', η ++ η', _, _, v, rfl, this, t1, Den.shift (fun j e he => by rw [List.getElem?_append_right (by rw [s1.len]; omega), s1.len]; simpa using he) _ _ hden, m1.trans t2, st1.trans t3⟩
end Go.Sx

namespace Go.Proofs
open Go Go.Sx
set_option maxRecDepth 100000
set_option maxHeartbeats 4000000
def zC (z : Int × Int) : List V := [.int .i64 z.1, .int .i64 z.2]
namespace Dk
def c (d : Dk) : List V := [.int .i64 d.H, .int .i64 d.T, .sl 2 d.Z.length (rowOf zC (0, 0) d.Z), .int .i64 d.hk, .int .i64 d.ck, .int .i64 d.hs.1, .int .i64 d.hs.2, .int .i64 d.cs.1, .int .i64 d.cs.2]
def v (d : Dk) : V := .agg d.c
open Classical in
noncomputable def chk (d : Dk) : Int := if d.Ok then 0 else 10
theorem chk_ok {d : Dk} (h : d.chk = 0) : d.Ok := by unfold chk at h; split at h; assumption; omega
theorem chk_of {d : Dk} (h : d.Ok) : d.chk = 0 := if_pos h
theorem chk_no {d : Dk} (h : ¬ d.Ok) : d.chk = 10 := if_neg h
end Dk
theorem within55 (n x y : Int) : PureC Try.prog 55 false [.int .i64 n, .int .i64 x, .int .i64 y] (· = .prop (x ≤ n ∧ n ≤ y) inferInstance) := by
  refine pureC_of_exec Try.E_ok Try.func55 rfl (by kernel_rfl) ?_
  (repeat' ((conv => whnf); (first | (with_reducible first | apply spl | apply spl') <;> intro hc <;> try (exfalso; omega) | with_reducible refine iJ fun hc => ?_ | refine vcq (k := ?_) | fail))); all_goals ((try conv => whnf); try with_reducible exact trivial); (all_goals (try (refine ⟨_, rfl, ?_⟩; (repeat' ((conv => whnf); (first | (with_reducible first | apply spl | apply spl') <;> intro hc <;> try (exfalso; omega) | with_reducible refine iJ fun hc => ?_ | refine vcq (k := ?_) | fail))); all_goals ((try conv => whnf); try with_reducible exact trivial))))
theorem within27 (n x y : Int) : PureC Try.prog 27 false [.int .i64 n, .int .i64 x, .int .i64 y] (· = .prop (x ≤ n ∧ n ≤ y) inferInstance) := by
  refine pureC_of_exec Try.E_ok Try.func27 rfl (by kernel_rfl) ?_
  (repeat' ((conv => whnf); (first | (with_reducible first | apply spl | apply spl') <;> intro hc <;> try (exfalso; omega) | with_reducible refine iJ fun hc => ?_ | refine vcq (k := ?_) | fail))); all_goals ((try conv => whnf); try with_reducible exact trivial); (all_goals (try (refine ⟨_, rfl, ?_⟩; (repeat' ((conv => whnf); (first | (with_reducible first | apply spl | apply spl') <;> intro hc <;> try (exfalso; omega) | with_reducible refine iJ fun hc => ?_ | refine vcq (k := ?_) | fail))); all_goals ((try conv => whnf); try with_reducible exact trivial))))
theorem in80 (n x y : Int) : PureC Try.prog 80 false [.int .i64 n, .int .i64 x, .int .i64 y] (· = .prop (x ≤ n ∧ n ≤ y) inferInstance) := by
  refine pureC_of_exec Try.E_ok Try.func80 rfl (by kernel_rfl) ?_
  (repeat' ((conv => whnf); (first | (with_reducible first | apply spl | apply spl') <;> intro hc <;> try (exfalso; omega) | with_reducible refine iJ fun hc => ?_ | refine vcq (k := ?_) | fail))); all_goals ((try conv => whnf); try with_reducible exact trivial); (all_goals (try (refine ⟨_, rfl, ?_⟩; (repeat' ((conv => whnf); (first | (with_reducible first | apply spl | apply spl') <;> intro hc <;> try (exfalso; omega) | with_reducible refine iJ fun hc => ?_ | refine vcq (k := ?_) | fail))); all_goals ((try conv => whnf); try with_reducible exact trivial))))
theorem span79 (s : Int × Int) : PureC Try.prog 79 false [.agg [.int .i64 s.1, .int .i64 s.2]] (· = .prop (Dk.SpanOk s) (inferInstanceAs (Decidable (_ ∧ _ ∧ _)))) := by
  refine pureC_of_exec Try.E_ok Try.func79 rfl (by kernel_rfl) ?_
  unfold Dk.SpanOk
  (repeat' ((conv => whnf); (first | (with_reducible first | apply spl | apply spl') <;> intro hc <;> try (exfalso; omega) | with_reducible refine iJ fun hc => ?_ | refine vcq (k := ?_) | fail))); all_goals ((try conv => whnf); try with_reducible exact trivial)
  refine ⟨_, rfl, ?_⟩
  (repeat' ((conv => whnf); (first | (with_reducible first | apply spl | apply spl') <;> intro hc <;> try (exfalso; omega) | with_reducible refine iJ fun hc => ?_ | refine vcq (k := ?_) | fail))); all_goals ((try conv => whnf); try with_reducible exact trivial)
theorem Dk.zat {d : Dk} (h : d.Ok) {i : Nat} (hi : i < d.Z.length) : (1 ≤ (d.Z.getD i (0, 0)).1 ∧ (d.Z.getD i (0, 0)).1 ≤ 20) ∧ (1 ≤ (d.Z.getD i (0, 0)).2 ∧ (d.Z.getD i (0, 0)).2 ≤ 16) ∧ d.T % (d.Z.getD i (0, 0)).2 = 0 := Dk.zone_at h hi
theorem Check37 (d : Dk) (hl : d.Z.length ≤ 1000000) : PureC Try.prog 37 false [d.v] (· = .int .i64 d.chk) := by
  refine pureC_of_exec Try.E_ok Try.func37 rfl (by kernel_rfl) ?_
  (repeat' ((conv => whnf); (first | (with_reducible first | apply spl | apply spl') <;> intro hc <;> try (exfalso; omega) | with_reducible refine iJ fun hc => ?_ | refine vcq (k := ?_) | fail))); all_goals ((try conv => whnf); try with_reducible exact trivial); (repeat' ((first | (refine callee_fo (within55 _ _ _) rfl ?_; rintro _ rfl) | (refine pcall_intro (within55 _ _ _) rfl ?_) | (refine pcall_soft (fun _ => within55 _ _ _) rfl ?_)); (repeat' ((conv => whnf); (first | (with_reducible first | apply spl | apply spl') <;> intro hc <;> try (exfalso; omega) | with_reducible refine iJ fun hc => ?_ | refine vcq (k := ?_) | fail))); all_goals ((try conv => whnf); try with_reducible exact trivial)))
  · rw [Dk.chk_no (fun h => by have := h.ck; omega)]
    refine ⟨_, rfl, ?_⟩
    (repeat' ((conv => whnf); (first | (with_reducible first | apply spl | apply spl') <;> intro hc <;> try (exfalso; omega) | with_reducible refine iJ fun hc => ?_ | refine vcq (k := ?_) | fail))); all_goals ((try conv => whnf); try with_reducible exact trivial)
  · refine ⟨Nat, fun i => i ≤ d.Z.length ∧ ∀ j, j < i → (1 ≤ (d.Z.getD j (0, 0)).1 ∧ (d.Z.getD j (0, 0)).1 ≤ 20) ∧ (1 ≤ (d.Z.getD j (0, 0)).2 ∧ (d.Z.getD j (0, 0)).2 ≤ 16) ∧ d.T % (d.Z.getD j (0, 0)).2 = 0, fun i => d.Z.length - i, fun i => [(3, .int .i64 (i : Nat))], fun _ => [], fun _ => [], 0, ⟨⟨by omega, fun j hj => by omega⟩, none, ?_⟩, ?_⟩
    · (repeat' ((conv => whnf); (first | (with_reducible first | apply spl | apply spl') <;> intro hc <;> try (exfalso; omega) | with_reducible refine iJ fun hc => ?_ | refine vcq (k := ?_) | fail))); all_goals ((try conv => whnf); try with_reducible exact trivial)
    · rintro i ⟨hi, hz⟩
      have hti : (i : Int).toNat = i := Int.toNat_natCast i
      (repeat' ((conv => whnf); (first | (with_reducible first | apply spl | apply spl') <;> intro hc <;> try (exfalso; omega) | with_reducible refine iJ fun hc => ?_ | refine vcq (k := ?_) | fail))); all_goals ((try conv => whnf); try with_reducible exact trivial); (repeat' ((first | (refine callee_fo (within55 _ _ _) rfl ?_; rintro _ rfl) | (refine pcall_intro (within55 _ _ _) rfl ?_) | (refine pcall_soft (fun _ => within55 _ _ _) rfl ?_)); (repeat' ((conv => whnf); (first | (with_reducible first | apply spl | apply spl') <;> intro hc <;> try (exfalso; omega) | with_reducible refine iJ fun hc => ?_ | refine vcq (k := ?_) | fail))); all_goals ((try conv => whnf); try with_reducible exact trivial)))
      · rw [hti] at *
        have hi1 : i < d.Z.length := by omega
        rw [Dk.chk_no (fun h => by have := Dk.zat h hi1; rw [Int.tmod_eq_emod_of_nonneg (by omega)] at hc; omega)]
        refine ⟨_, rfl, ?_⟩
        (repeat' ((conv => whnf); (first | (with_reducible first | apply spl | apply spl') <;> intro hc <;> try (exfalso; omega) | with_reducible refine iJ fun hc => ?_ | refine vcq (k := ?_) | fail))); all_goals ((try conv => whnf); try with_reducible exact trivial)
      · rw [hti] at *
        have hi1 : i < d.Z.length := by omega
        refine ⟨i + 1, ⟨⟨by omega, fun j hj => ?_⟩, by dsimp only; omega⟩, some [some 0], ?_⟩
        · rcases Nat.lt_or_eq_of_le (show j ≤ i by omega) with g | rfl
          · exact hz j g
          · rw [Int.tmod_eq_emod_of_nonneg (by omega)] at hc
            omega
        · (repeat' ((conv => whnf); (first | (with_reducible first | apply spl | apply spl') <;> intro hc <;> try (exfalso; omega) | with_reducible refine iJ fun hc => ?_ | refine vcq (k := ?_) | fail))); all_goals ((try conv => whnf); try with_reducible exact trivial)
      · rw [hti] at *
        have hi1 : i < d.Z.length := by omega
        rw [Dk.chk_no (fun h => by have := Dk.zat h hi1; omega)]
        refine ⟨_, rfl, ?_⟩
        (repeat' ((conv => whnf); (first | (with_reducible first | apply spl | apply spl') <;> intro hc <;> try (exfalso; omega) | with_reducible refine iJ fun hc => ?_ | refine vcq (k := ?_) | fail))); all_goals ((try conv => whnf); try with_reducible exact trivial)
      · rw [Dk.chk_no (fun h => by have := h.hs; have := h.cs; unfold Dk.SpanOk at *; omega)]
        refine ⟨_, rfl, ?_⟩
        (repeat' ((conv => whnf); (first | (with_reducible first | apply spl | apply spl') <;> intro hc <;> try (exfalso; omega) | with_reducible refine iJ fun hc => ?_ | refine vcq (k := ?_) | fail))); all_goals ((try conv => whnf); try with_reducible exact trivial)
      · have hie : i = d.Z.length := by omega
        subst hie
        rw [Dk.chk_of ⟨by omega, by omega, by omega, by omega, by omega, by unfold Dk.SpanOk; omega, by unfold Dk.SpanOk; omega, fun z hzm => by
          obtain ⟨j, hj, rfl⟩ := List.getElem_of_mem hzm
          have := hz j hj
          rwa [show d.Z.getD j (0, 0) = d.Z[j] by simp [List.getD_eq_getElem?_getD, hj]] at this⟩]
        refine ⟨_, rfl, ?_⟩
        (repeat' ((conv => whnf); (first | (with_reducible first | apply spl | apply spl') <;> intro hc <;> try (exfalso; omega) | with_reducible refine iJ fun hc => ?_ | refine vcq (k := ?_) | fail))); all_goals ((try conv => whnf); try with_reducible exact trivial)
  · rw [Dk.chk_no (fun h => by have := h.hk; omega)]
    refine ⟨_, rfl, ?_⟩
    (repeat' ((conv => whnf); (first | (with_reducible first | apply spl | apply spl') <;> intro hc <;> try (exfalso; omega) | with_reducible refine iJ fun hc => ?_ | refine vcq (k := ?_) | fail))); all_goals ((try conv => whnf); try with_reducible exact trivial)
  · rw [Dk.chk_no (fun h => by have := h.z; omega)]
    refine ⟨_, rfl, ?_⟩
    (repeat' ((conv => whnf); (first | (with_reducible first | apply spl | apply spl') <;> intro hc <;> try (exfalso; omega) | with_reducible refine iJ fun hc => ?_ | refine vcq (k := ?_) | fail))); all_goals ((try conv => whnf); try with_reducible exact trivial)
  · rw [Dk.chk_no (fun h => by have := h.t; omega)]
    refine ⟨_, rfl, ?_⟩
    (repeat' ((conv => whnf); (first | (with_reducible first | apply spl | apply spl') <;> intro hc <;> try (exfalso; omega) | with_reducible refine iJ fun hc => ?_ | refine vcq (k := ?_) | fail))); all_goals ((try conv => whnf); try with_reducible exact trivial)
  · rw [Dk.chk_no (fun h => by have := h.h; omega)]
    refine ⟨_, rfl, ?_⟩
    (repeat' ((conv => whnf); (first | (with_reducible first | apply spl | apply spl') <;> intro hc <;> try (exfalso; omega) | with_reducible refine iJ fun hc => ?_ | refine vcq (k := ?_) | fail))); all_goals ((try conv => whnf); try with_reducible exact trivial)
theorem Check63 (d : Dk) (hl : d.Z.length ≤ 1000000) : PureC Try.prog 63 false [d.v] (· = .int .i64 d.chk) := by
  refine pureC_of_exec Try.E_ok Try.func63 rfl (by kernel_rfl) ?_
  (repeat' ((conv => whnf); (first | (with_reducible first | apply spl | apply spl') <;> intro hc <;> try (exfalso; omega) | with_reducible refine iJ fun hc => ?_ | refine vcq (k := ?_) | fail))); all_goals ((try conv => whnf); try with_reducible exact trivial); (repeat' ((first | (refine callee_fo (in80 _ _ _) rfl ?_; rintro _ rfl) | (refine pcall_intro (in80 _ _ _) rfl ?_) | (refine pcall_soft (fun _ => in80 _ _ _) rfl ?_) | (refine callee_fo (span79 d.hs) rfl ?_; rintro _ rfl) | (refine pcall_intro (span79 d.hs) rfl ?_) | (refine pcall_soft (fun _ => span79 d.hs) rfl ?_) | (refine callee_fo (span79 d.cs) rfl ?_; rintro _ rfl) | (refine pcall_intro (span79 d.cs) rfl ?_) | (refine pcall_soft (fun _ => span79 d.cs) rfl ?_)); (repeat' ((conv => whnf); (first | (with_reducible first | apply spl | apply spl') <;> intro hc <;> try (exfalso; omega) | with_reducible refine iJ fun hc => ?_ | refine vcq (k := ?_) | fail))); all_goals ((try conv => whnf); try with_reducible exact trivial)))
  all_goals first
    | (exfalso; contradiction)
    | (rw [Dk.chk_no (fun h => by have := h.h; have := h.t; have := h.z; have := h.hk; have := h.ck; have := h.hs; have := h.cs; first | omega | contradiction)]; refine ⟨_, rfl, ?_⟩; (repeat' ((conv => whnf); (first | (with_reducible first | apply spl | apply spl') <;> intro hc <;> try (exfalso; omega) | with_reducible refine iJ fun hc => ?_ | refine vcq (k := ?_) | fail))); all_goals ((try conv => whnf); try with_reducible exact trivial); done)
    | skip
  all_goals trace_state
  refine ⟨Nat, fun i => i ≤ d.Z.length ∧ ∀ j, j < i → (1 ≤ (d.Z.getD j (0, 0)).1 ∧ (d.Z.getD j (0, 0)).1 ≤ 20) ∧ (1 ≤ (d.Z.getD j (0, 0)).2 ∧ (d.Z.getD j (0, 0)).2 ≤ 16) ∧ d.T % (d.Z.getD j (0, 0)).2 = 0, fun i => d.Z.length - i, fun i => [(48, .int .i64 (i : Nat))], fun _ => [], fun _ => [], 0, ⟨⟨by omega, fun j hj => by omega⟩, none, ?_⟩, ?_⟩
  · (repeat' ((conv => whnf); (first | (with_reducible first | apply spl | apply spl') <;> intro hc <;> try (exfalso; omega) | with_reducible refine iJ fun hc => ?_ | refine vcq (k := ?_) | fail))); all_goals ((try conv => whnf); try with_reducible exact trivial)
  · rintro i ⟨hi, hz⟩
    have hti : (i : Int).toNat = i := Int.toNat_natCast i
    (repeat' ((conv => whnf); (first | (with_reducible first | apply spl | apply spl') <;> intro hc <;> try (exfalso; omega) | with_reducible refine iJ fun hc => ?_ | refine vcq (k := ?_) | fail))); all_goals ((try conv => whnf); try with_reducible exact trivial); (repeat' ((first | (refine callee_fo (in80 _ _ _) rfl ?_; rintro _ rfl) | (refine pcall_intro (in80 _ _ _) rfl ?_) | (refine pcall_soft (fun _ => in80 _ _ _) rfl ?_)); (repeat' ((conv => whnf); (first | (with_reducible first | apply spl | apply spl') <;> intro hc <;> try (exfalso; omega) | with_reducible refine iJ fun hc => ?_ | refine vcq (k := ?_) | fail))); all_goals ((try conv => whnf); try with_reducible exact trivial)))
    · rw [hti] at *
      have hi1 : i < d.Z.length := by omega
      rw [Dk.chk_no (fun h => by have := Dk.zat h hi1; rw [Int.tmod_eq_emod_of_nonneg (by omega)] at hc; omega)]
      refine ⟨_, rfl, ?_⟩
      (repeat' ((conv => whnf); (first | (with_reducible first | apply spl | apply spl') <;> intro hc <;> try (exfalso; omega) | with_reducible refine iJ fun hc => ?_ | refine vcq (k := ?_) | fail))); all_goals ((try conv => whnf); try with_reducible exact trivial)
    · rw [hti] at *
      have hi1 : i < d.Z.length := by omega
      refine ⟨i + 1, ⟨⟨by omega, fun j hj => ?_⟩, by dsimp only; omega⟩, some [some 0], ?_⟩
      · rcases Nat.lt_or_eq_of_le (show j ≤ i by omega) with g | rfl
        · exact hz j g
        · rw [Int.tmod_eq_emod_of_nonneg (by omega)] at hc
          omega
      · (repeat' ((conv => whnf); (first | (with_reducible first | apply spl | apply spl') <;> intro hc <;> try (exfalso; omega) | with_reducible refine iJ fun hc => ?_ | refine vcq (k := ?_) | fail))); all_goals ((try conv => whnf); try with_reducible exact trivial)
    · rw [hti] at *
      have hi1 : i < d.Z.length := by omega
      rw [Dk.chk_no (fun h => by have := Dk.zat h hi1; omega)]
      refine ⟨_, rfl, ?_⟩
      (repeat' ((conv => whnf); (first | (with_reducible first | apply spl | apply spl') <;> intro hc <;> try (exfalso; omega) | with_reducible refine iJ fun hc => ?_ | refine vcq (k := ?_) | fail))); all_goals ((try conv => whnf); try with_reducible exact trivial)
    · have hie : i = d.Z.length := by omega
      subst hie
      rw [Dk.chk_of ⟨by omega, by omega, by omega, by omega, by omega, Classical.not_not.1 (by assumption), Classical.not_not.1 (by assumption), fun z hzm => by
        obtain ⟨j, hj, rfl⟩ := List.getElem_of_mem hzm
        have := hz j hj
        rwa [show d.Z.getD j (0, 0) = d.Z[j] by simp [List.getD_eq_getElem?_getD, hj]] at this⟩]
      refine ⟨_, rfl, ?_⟩
      (repeat' ((conv => whnf); (first | (with_reducible first | apply spl | apply spl') <;> intro hc <;> try (exfalso; omega) | with_reducible refine iJ fun hc => ?_ | refine vcq (k := ?_) | fail))); all_goals ((try conv => whnf); try with_reducible exact trivial)
end Go.Proofs

namespace Go.Proofs
open Go Go.Sx
set_option maxRecDepth 100000
set_option maxHeartbeats 4000000
namespace Dk
theorem Spre_len (d : Dk) (i k : Nat) : (d.Spre i k).length = (d.Spre i 0).length + k := by unfold Spre; simp
theorem Spre_sum (d : Dk) (i k : Nat) : (d.Spre i k).sum = (d.Spre i 0).sum + k * (d.Z.getD i (0, 0)).2.toNat := by unfold Spre; simp
theorem Spre_len_succ (d : Dk) {i : Nat} (hi : i < d.Z.length) : (d.Spre (i + 1) 0).length = (d.Spre i 0).length + (d.Z.getD i (0, 0)).1.toNat := by rw [Spre_zone d i hi, Spre_len]
theorem Spre_sum_succ (d : Dk) {i : Nat} (hi : i < d.Z.length) : (d.Spre (i + 1) 0).sum = (d.Spre i 0).sum + (d.Z.getD i (0, 0)).1.toNat * (d.Z.getD i (0, 0)).2.toNat := by rw [Spre_zone d i hi, Spre_sum]
theorem Spre_le {d : Dk} (hd : d.Ok) : ∀ i, i ≤ d.Z.length → (d.Spre i 0).length ≤ 20 * i ∧ (d.Spre i 0).sum ≤ 320 * i
  | 0, _ => by rw [Spre_zero]; simp
  | i + 1, h => by
    have ih := Spre_le hd i (by omega)
    have hz := zone_at hd (show i < d.Z.length by omega)
    rw [Spre_len_succ d (by omega), Spre_sum_succ d (by omega)]
    have : (d.Z.getD i (0, 0)).1.toNat * (d.Z.getD i (0, 0)).2.toNat ≤ 20 * 16 := Nat.mul_le_mul (by omega) (by omega)
    omega
end Dk
theorem mul_bnd {a b m n : Int} (h1 : 1 ≤ a) (h2 : a ≤ m) (h3 : 1 ≤ b) (h4 : b ≤ n) : 0 ≤ a * b ∧ a * b ≤ m * n :=
  ⟨Int.mul_nonneg (by omega) (by omega), Int.mul_le_mul h2 h4 (by omega) (by omega)⟩
theorem mul_bnd0 {a b m n : Int} (h1 : 0 ≤ a) (h2 : a ≤ m) (h3 : 0 ≤ b) (h4 : b ≤ n) : 0 ≤ a * b ∧ a * b ≤ m * n :=
  ⟨Int.mul_nonneg h1 h3, Int.mul_le_mul h2 h4 h3 (by omega)⟩
theorem Cylinders49 (d : Dk) (hd : d.Ok) : PureC Try.prog 49 false [d.v] (· = .int .i64 d.S.length) := by
  have hZ := hd.z
  refine pureC_of_exec Try.E_ok Try.func49 rfl (by kernel_rfl) ?_
  (repeat' ((conv => whnf); (first | (with_reducible first | apply spl | apply spl') <;> intro hc <;> try (exfalso; omega) | with_reducible refine iJ fun hc => ?_ | refine vcq (k := ?_) | refine dr 18 (k := ?_)))); all_goals ((try conv => whnf); try with_reducible exact trivial)
  refine ⟨Nat, fun i => i ≤ d.Z.length, fun i => d.Z.length - i, fun i => [(4, .int .i64 (i : Nat)), (3, .int .i64 ((d.Spre i 0).length : Nat))], fun _ => [], fun _ => [], 0, ⟨by omega, none, ?_⟩, ?_⟩
  · (repeat' ((conv => whnf); (first | (with_reducible first | apply spl | apply spl') <;> intro hc <;> try (exfalso; omega) | with_reducible refine iJ fun hc => ?_ | refine vcq (k := ?_) | refine dr 18 (k := ?_)))); all_goals ((try conv => whnf); try with_reducible exact trivial)
  · intro i hi
    have hi : i ≤ d.Z.length := hi
    have hti : (i : Int).toNat = i := Int.toNat_natCast i
    have hle := Dk.Spre_le hd i hi
    by_cases hi1 : i < d.Z.length
    · have hz := Dk.zone_at hd hi1
      have hs := Dk.Spre_len_succ d hi1
      have hle2 := Dk.Spre_le hd (i + 1) hi1
      (repeat' ((conv => whnf); (first | (with_reducible first | apply spl | apply spl') <;> intro hc <;> try (exfalso; omega) | with_reducible refine iJ fun hc => ?_ | refine vcq (k := ?_) | refine dr 18 (k := ?_)))); all_goals ((try conv => whnf); try with_reducible exact trivial)
      rw [hti]
      (repeat' ((conv => whnf); (first | (with_reducible first | apply spl | apply spl') <;> intro hc <;> try (exfalso; omega) | with_reducible refine iJ fun hc => ?_ | refine vcq (k := ?_) | refine dr 18 (k := ?_)))); all_goals ((try conv => whnf); try with_reducible exact trivial)
      refine ⟨i + 1, ⟨by omega, by dsimp only; omega⟩, none, ?_⟩
      (repeat' ((conv => whnf); (first | (with_reducible first | apply spl | apply spl') <;> intro hc <;> try (exfalso; omega) | with_reducible refine iJ fun hc => ?_ | refine vcq (k := ?_) | refine dr 18 (k := ?_)))); all_goals ((try conv => whnf); try with_reducible exact trivial)
    · obtain rfl : i = d.Z.length := by omega
      (repeat' ((conv => whnf); (first | (with_reducible first | apply spl | apply spl') <;> intro hc <;> try (exfalso; omega) | with_reducible refine iJ fun hc => ?_ | refine vcq (k := ?_) | refine dr 18 (k := ?_)))); all_goals ((try conv => whnf); try with_reducible exact trivial)
      rw [Dk.Spre_all]
      refine ⟨_, rfl, ?_⟩
      (repeat' ((conv => whnf); (first | (with_reducible first | apply spl | apply spl') <;> intro hc <;> try (exfalso; omega) | with_reducible refine iJ fun hc => ?_ | refine vcq (k := ?_) | refine dr 18 (k := ?_)))); all_goals ((try conv => whnf); try with_reducible exact trivial)
theorem Count57 (d : Dk) (hd : d.Ok) : PureC Try.prog 57 false [d.v] (· = .int .i64 d.cnt) := by
  have hZ := hd.z
  have hH := hd.h
  refine pureC_of_exec Try.E_ok Try.func57 rfl (by kernel_rfl) ?_
  (repeat' ((conv => whnf); (first | (with_reducible first | apply spl | apply spl') <;> intro hc <;> try (exfalso; omega) | with_reducible refine iJ fun hc => ?_ | refine vcq (k := ?_) | refine dr 18 (k := ?_)))); all_goals ((try conv => whnf); try with_reducible exact trivial)
  refine ⟨Nat, fun i => i ≤ d.Z.length, fun i => d.Z.length - i, fun i => [(4, .int .i64 (i : Nat)), (3, .int .i64 ((d.H.toNat * (d.Spre i 0).sum : Nat)))], fun _ => [], fun _ => [], 0, ⟨by omega, none, ?_⟩, ?_⟩
  · (repeat' ((conv => whnf); (first | (with_reducible first | apply spl | apply spl') <;> intro hc <;> try (exfalso; omega) | with_reducible refine iJ fun hc => ?_ | refine vcq (k := ?_) | refine dr 18 (k := ?_)))); all_goals ((try conv => whnf); try with_reducible exact trivial)
  · intro i hi
    have hi : i ≤ d.Z.length := hi
    have hti : (i : Int).toNat = i := Int.toNat_natCast i
    have hle := Dk.Spre_le hd i hi
    by_cases hi1 : i < d.Z.length
    · have hz := Dk.zone_at hd hi1
      have hs := Dk.Spre_sum_succ d hi1
      have hle2 := Dk.Spre_le hd (i + 1) hi1
      have m1 : 0 ≤ (d.Z.getD i (0, 0)).1 * (d.Z.getD i (0, 0)).2 ∧ (d.Z.getD i (0, 0)).1 * (d.Z.getD i (0, 0)).2 ≤ 20 * 16 := mul_bnd hz.1.1 hz.1.2 hz.2.1.1 hz.2.1.2
      have m2 : 0 ≤ (d.Z.getD i (0, 0)).1 * (d.Z.getD i (0, 0)).2 * d.H ∧ (d.Z.getD i (0, 0)).1 * (d.Z.getD i (0, 0)).2 * d.H ≤ 320 * 4 := mul_bnd0 m1.1 m1.2 (by omega) hH.2
      have m3 : ((d.H.toNat * (d.Spre (i + 1) 0).sum : Nat) : Int) = ((d.H.toNat * (d.Spre i 0).sum : Nat) : Int) + (d.Z.getD i (0, 0)).1 * (d.Z.getD i (0, 0)).2 * d.H := by
        rw [hs]
        push_cast
        rw [Int.toNat_of_nonneg (by omega), Int.toNat_of_nonneg (by omega), Int.toNat_of_nonneg (by omega), Int.mul_add, Int.mul_comm d.H ((d.Z.getD i (0, 0)).1 * _)]
      have m4 : d.H.toNat * (d.Spre i 0).sum ≤ 4 * 1280 := Nat.mul_le_mul (by omega) (by omega)
      (repeat' ((conv => whnf); (first | (with_reducible first | apply spl | apply spl') <;> intro hc <;> try (exfalso; omega) | with_reducible refine iJ fun hc => ?_ | refine vcq (k := ?_) | refine dr 18 (k := ?_)))); all_goals ((try conv => whnf); try with_reducible exact trivial)
      rw [hti]
      (repeat' ((conv => whnf); (first | (with_reducible first | apply spl | apply spl') <;> intro hc <;> try (exfalso; omega) | with_reducible refine iJ fun hc => ?_ | refine vcq (k := ?_) | refine dr 18 (k := ?_)))); all_goals ((try conv => whnf); try with_reducible exact trivial)
      refine ⟨i + 1, ⟨by omega, by dsimp only; omega⟩, none, ?_⟩
      (repeat' ((conv => whnf); (first | (with_reducible first | apply spl | apply spl') <;> intro hc <;> try (exfalso; omega) | with_reducible refine iJ fun hc => ?_ | refine vcq (k := ?_) | refine dr 18 (k := ?_)))); all_goals ((try conv => whnf); try with_reducible exact trivial)
    · obtain rfl : i = d.Z.length := by omega
      (repeat' ((conv => whnf); (first | (with_reducible first | apply spl | apply spl') <;> intro hc <;> try (exfalso; omega) | with_reducible refine iJ fun hc => ?_ | refine vcq (k := ?_) | refine dr 18 (k := ?_)))); all_goals ((try conv => whnf); try with_reducible exact trivial)
      rw [Dk.Spre_all]
      refine ⟨_, rfl, ?_⟩
      (repeat' ((conv => whnf); (first | (with_reducible first | apply spl | apply spl') <;> intro hc <;> try (exfalso; omega) | with_reducible refine iJ fun hc => ?_ | refine vcq (k := ?_) | refine dr 18 (k := ?_)))); all_goals ((try conv => whnf); try with_reducible exact trivial)
theorem IsSector56 (d : Dk) (hd : d.Ok) (n : Int) : PureC Try.prog 56 false [d.v, .int .i64 n] (· = .prop (0 ≤ n ∧ n ≤ d.cnt - 1) inferInstance) := by
  have hc := d.cnt_le hd
  refine pureC_of_exec Try.E_ok Try.func56 rfl (by kernel_rfl) ?_
  (repeat' ((conv => whnf); (first | (with_reducible first | apply spl | apply spl') <;> intro hc <;> try (exfalso; omega) | with_reducible refine iJ fun hc => ?_ | refine vcq (k := ?_) | refine dr 18 (k := ?_)))); all_goals ((try conv => whnf); try with_reducible exact trivial); (repeat' ((first | (refine callee_fo (Count57 d hd) rfl ?_; rintro _ rfl) | (refine pcall_intro (Count57 d hd) rfl ?_) | (refine pcall_soft (fun _ => Count57 d hd) rfl ?_) | (refine callee_fo (within55 _ _ _) rfl ?_; rintro _ rfl) | (refine pcall_intro (within55 _ _ _) rfl ?_) | (refine pcall_soft (fun _ => within55 _ _ _) rfl ?_)); (repeat' ((conv => whnf); (first | (with_reducible first | apply spl | apply spl') <;> intro hc <;> try (exfalso; omega) | with_reducible refine iJ fun hc => ?_ | refine vcq (k := ?_) | refine dr 18 (k := ?_)))); all_goals ((try conv => whnf); try with_reducible exact trivial))); (all_goals (try (refine ⟨_, rfl, ?_⟩; (repeat' ((conv => whnf); (first | (with_reducible first | apply spl | apply spl') <;> intro hc <;> try (exfalso; omega) | with_reducible refine iJ fun hc => ?_ | refine vcq (k := ?_) | refine dr 18 (k := ?_)))); all_goals ((try conv => whnf); try with_reducible exact trivial))))
theorem IsRun38 (d : Dk) (hd : d.Ok) (n m : Int) : PureC Try.prog 38 false [d.v, .int .i64 n, .int .i64 m] (· = .prop ((0 ≤ n ∧ n ≤ d.cnt - 1) ∧ 1 ≤ m ∧ m ≤ d.cnt - n) inferInstance) := by
  have hcn := d.cnt_le hd
  refine pureC_of_exec Try.E_ok Try.func38 rfl (by kernel_rfl) ?_
  (repeat' ((conv => whnf); (first | (with_reducible first | apply spl | apply spl') <;> intro hc <;> try (exfalso; omega) | with_reducible refine iJ fun hc => ?_ | refine vcq (k := ?_) | refine dr 18 (k := ?_)))); all_goals ((try conv => whnf); try with_reducible exact trivial); (repeat' ((first | (refine callee_fo (IsSector56 d hd n) rfl ?_; rintro _ rfl) | (refine pcall_intro (IsSector56 d hd n) rfl ?_) | (refine pcall_soft (fun _ => IsSector56 d hd n) rfl ?_) | (refine callee_fo (Count57 d hd) rfl ?_; rintro _ rfl) | (refine pcall_intro (Count57 d hd) rfl ?_) | (refine pcall_soft (fun _ => Count57 d hd) rfl ?_) | (refine callee_fo (within55 _ _ _) rfl ?_; rintro _ rfl) | (refine pcall_intro (within55 _ _ _) rfl ?_) | (refine pcall_soft (fun _ => within55 _ _ _) rfl ?_)); (repeat' ((conv => whnf); (first | (with_reducible first | apply spl | apply spl') <;> intro hc <;> try (exfalso; omega) | with_reducible refine iJ fun hc => ?_ | refine vcq (k := ?_) | refine dr 18 (k := ?_)))); all_goals ((try conv => whnf); try with_reducible exact trivial)))
  · refine ⟨_, rfl, ?_⟩
    (repeat' ((conv => whnf); (first | (with_reducible first | apply spl | apply spl') <;> intro hc <;> try (exfalso; omega) | with_reducible refine iJ fun hc => ?_ | refine vcq (k := ?_) | refine dr 18 (k := ?_)))); all_goals ((try conv => whnf); try with_reducible exact trivial)
  · refine ⟨_, rfl, ?_⟩
    (repeat' ((conv => whnf); (first | (with_reducible first | apply spl | apply spl') <;> intro hc <;> try (exfalso; omega) | with_reducible refine iJ fun hc => ?_ | refine vcq (k := ?_) | refine dr 18 (k := ?_)))); all_goals ((try conv => whnf); try with_reducible exact trivial)
namespace Dk
theorem Spre_mono (d : Dk) {i j : Nat} (h : i ≤ j) (hj : j ≤ d.Z.length) : (d.Spre i 0).length ≤ (d.Spre j 0).length := by
  induction j with
  | zero => obtain rfl : i = 0 := by omega
            exact Nat.le_refl _
  | succ j ih =>
    rcases Nat.lt_or_eq_of_le h with g | rfl
    · have := ih (by omega) (by omega)
      rw [Spre_len_succ d (by omega)]
      omega
    · exact Nat.le_refl _
theorem zone_ex (d : Dk) {c : Nat} (hc : c < d.S.length) : ∃ i, i < d.Z.length ∧ (d.Spre i 0).length ≤ c ∧ c < (d.Spre (i + 1) 0).length := by
  have key : ∀ m, m ≤ d.Z.length → (d.Spre m 0).length ≤ c ∨ ∃ i, i < m ∧ (d.Spre i 0).length ≤ c ∧ c < (d.Spre (i + 1) 0).length := by
    intro m
    induction m with
    | zero => intro _; left; rw [Spre_zero]; simp
    | succ m ih =>
      intro hm
      rcases ih (by omega) with g | ⟨i, h1, h2⟩
      · rcases Nat.lt_or_ge c (d.Spre (m + 1) 0).length with g2 | g2
        · exact .inr ⟨m, by omega, g, g2⟩
        · exact .inl g2
      · exact .inr ⟨i, by omega, h2⟩
  rcases key d.Z.length (Nat.le_refl _) with g | ⟨i, h1, h2⟩
  · rw [Spre_all] at g; omega
  · exact ⟨i, h1, h2⟩
theorem zone_sec (d : Dk) {c i : Nat} (hi : i < d.Z.length) (h1 : (d.Spre i 0).length ≤ c) (h2 : c < (d.Spre (i + 1) 0).length) : d.S.getD c 0 = (d.Z.getD i (0, 0)).2.toNat := by
  rw [Spre_len_succ d hi] at h2
  have hg := d.Spre_get i (c - (d.Spre i 0).length) hi (by omega)
  rw [Dk.Spre_len, show (d.Spre i 0).length + (c - (d.Spre i 0).length) = c by omega] at hg
  exact hg.2.1
end Dk
theorem ZoneOf76 (d : Dk) (hd : d.Ok) (c i : Nat) (hi : i < d.Z.length) (h1 : (d.Spre i 0).length ≤ c) (h2 : c < (d.Spre (i + 1) 0).length) : PureC Try.prog 76 false [d.v, .int .i64 c] (· = .int .i64 i) := by
  have hZ := hd.z
  have hpi := Dk.Spre_le hd (i + 1) hi
  refine pureC_of_exec Try.E_ok Try.func76 rfl (by kernel_rfl) ?_
  (repeat' ((conv => whnf); (first | (with_reducible first | apply spl | apply spl') <;> intro hc <;> try (exfalso; omega) | with_reducible refine iJ fun hc => ?_ | refine vcq (k := ?_) | refine dr 18 (k := ?_)))); all_goals ((try conv => whnf); try with_reducible exact trivial)
  refine ⟨Nat, fun j => j ≤ i, fun j => d.Z.length - j, fun j => [(5, .int .i64 (j : Nat)), (1, .int .i64 (c - (d.Spre j 0).length : Nat))], fun _ => [], fun _ => [], 0, ⟨by omega, none, ?_⟩, ?_⟩
  · (repeat' ((conv => whnf); (first | (with_reducible first | apply spl | apply spl') <;> intro hc <;> try (exfalso; omega) | with_reducible refine iJ fun hc => ?_ | refine vcq (k := ?_) | refine dr 18 (k := ?_)))); all_goals ((try conv => whnf); try with_reducible exact trivial)
  · intro j hj
    have hj : j ≤ i := hj
    have htj : (j : Int).toNat = j := Int.toNat_natCast j
    have hz := Dk.zone_at hd (show j < d.Z.length by omega)
    have hs := Dk.Spre_len_succ d (show j < d.Z.length by omega)
    have hle := d.Spre_mono hj (by omega)
    (repeat' ((conv => whnf); (first | (with_reducible first | apply spl | apply spl') <;> intro hc <;> try (exfalso; omega) | with_reducible refine iJ fun hc => ?_ | refine vcq (k := ?_) | refine dr 18 (k := ?_)))); all_goals ((try conv => whnf); try with_reducible exact trivial)
    · rw [htj] at hc
      rcases Nat.lt_or_eq_of_le hj with g | rfl
      · have := d.Spre_mono (show j + 1 ≤ i by omega) (by omega)
        omega
      · refine ⟨_, rfl, ?_⟩
        (repeat' ((conv => whnf); (first | (with_reducible first | apply spl | apply spl') <;> intro hc <;> try (exfalso; omega) | with_reducible refine iJ fun hc => ?_ | refine vcq (k := ?_) | refine dr 18 (k := ?_)))); all_goals ((try conv => whnf); try with_reducible exact trivial)
    · rw [htj] at hc
      rcases Nat.lt_or_eq_of_le hj with g | rfl
      · have hm2 := d.Spre_mono (show j + 1 ≤ i by omega) (by omega)
        rw [htj]
        (repeat' ((conv => whnf); (first | (with_reducible first | apply spl | apply spl') <;> intro hc <;> try (exfalso; omega) | with_reducible refine iJ fun hc => ?_ | refine vcq (k := ?_) | refine dr 18 (k := ?_)))); all_goals ((try conv => whnf); try with_reducible exact trivial)
        refine ⟨j + 1, ⟨by omega, by dsimp only; omega⟩, none, ?_⟩
        (repeat' ((conv => whnf); (first | (with_reducible first | apply spl | apply spl') <;> intro hc <;> try (exfalso; omega) | with_reducible refine iJ fun hc => ?_ | refine vcq (k := ?_) | refine dr 18 (k := ?_)))); all_goals ((try conv => whnf); try with_reducible exact trivial)
      · omega
theorem Sectors54 (d : Dk) (hd : d.Ok) (c : Nat) (hc1 : c < d.S.length) : PureC Try.prog 54 false [d.v, .int .i64 c] (· = .int .i64 (d.S.getD c 0 : Nat)) := by
  have hZ := hd.z
  obtain ⟨i, hi, h1, h2⟩ := d.zone_ex hc1
  have hz := Dk.zone_at hd hi
  have hti : (i : Int).toNat = i := Int.toNat_natCast i
  rw [d.zone_sec hi h1 h2]
  refine pureC_of_exec Try.E_ok Try.func54 rfl (by kernel_rfl) ?_
  (repeat' ((conv => whnf); (first | (with_reducible first | apply spl | apply spl') <;> intro hc <;> try (exfalso; omega) | with_reducible refine iJ fun hc => ?_ | refine vcq (k := ?_) | refine dr 9 (k := ?_)))); all_goals ((try conv => whnf); try with_reducible exact trivial)
  refine pcall_intro (ZoneOf76 d hd c i hi h1 h2) rfl ?_
  (repeat' ((conv => whnf); (first | (with_reducible first | apply spl | apply spl') <;> intro hc <;> try (exfalso; omega) | with_reducible refine iJ fun hc => ?_ | refine vcq (k := ?_) | refine dr 9 (k := ?_)))); all_goals ((try conv => whnf); try with_reducible exact trivial)
  rw [hti, Int.toNat_of_nonneg (by omega)]
  refine ⟨_, rfl, ?_⟩
  (repeat' ((conv => whnf); (first | (with_reducible first | apply spl | apply spl') <;> intro hc <;> try (exfalso; omega) | with_reducible refine iJ fun hc => ?_ | refine vcq (k := ?_) | refine dr 18 (k := ?_)))); all_goals ((try conv => whnf); try with_reducible exact trivial)
theorem at_lt {H : Nat} {S : List Nat} {n c h s : Nat} (g : AtS H S n c h s) : n < H * S.sum := by
  obtain ⟨h1, h2, h3, h4⟩ := g
  have e1 := fstS_head H S c h
  have e2 : fstS H S c (h + 1) ≤ fstS H S c H := by unfold fstS; exact Nat.add_le_add_left (Nat.mul_le_mul_right _ h2) _
  have e3 := fstS_cyl H S c h1
  have e4 : fstS H S (c + 1) 0 ≤ H * S.sum := by
    unfold fstS
    rw [Nat.zero_mul, Nat.add_zero]
    refine Nat.mul_le_mul_left _ ?_
    conv => rhs; rw [← List.take_append_drop (c + 1) S, List.sum_append]
    omega
  omega
def plC (p : Nat × Nat × Nat) : List V := [.int .i64 p.1, .int .i64 p.2.1, .int .i64 p.2.2]
def Dk.plR (d : Dk) (n : Nat) : List V := plC (loc d.H.toNat d.S n)
theorem Places36 (d : Dk) (hd : d.Ok) : PureC Try.prog 36 false [d.v] (· = .sl 3 d.cnt d.plR) := by
  have hZ := hd.z
  have hH := hd.h
  have hS := d.S_len hd
  have hcn := d.cnt_le hd
  have hpos := d.S_pos hd
  have hHn : (d.H.toNat : Int) = d.H := Int.toNat_of_nonneg (by omega)
  have hall : fstS d.H.toNat d.S d.S.length 0 = d.cnt := fstS_all _ _
  refine pureC_of_exec Try.E_ok Try.func36 rfl (by kernel_rfl) ?_
  (repeat' ((conv => whnf); (first | (with_reducible first | apply spl | apply spl') <;> intro hc <;> try (exfalso; omega) | with_reducible refine iJ fun hc => ?_ | refine vcq (k := ?_) | refine dr 18 (k := ?_)))); all_goals ((try conv => whnf); try with_reducible exact trivial)
  refine ⟨Nat, fun c => c ≤ d.S.length, fun c => d.S.length - c, fun c => [(4, .int .i64 (c : Nat)), (3, .osl 1 (fstS d.H.toNat d.S c 0))], fun _ => [], fun c => [.row 76 3 (fstS d.H.toNat d.S c 0) d.plR true], 0, ⟨by omega, some [some 0, none], ?_⟩, ?_⟩
  · (repeat' ((conv => whnf); (first | (with_reducible first | apply spl | apply spl') <;> intro hc <;> try (exfalso; omega) | with_reducible refine iJ fun hc => ?_ | refine vcq (k := ?_) | refine dr 18 (k := ?_)))); all_goals ((try conv => whnf); try with_reducible exact trivial)
    rw [fstS_zero]
    refine ⟨rfl, ?_⟩
    (repeat' ((conv => whnf); (first | (with_reducible first | apply spl | apply spl') <;> intro hc <;> try (exfalso; omega) | with_reducible refine iJ fun hc => ?_ | refine vcq (k := ?_) | refine dr 18 (k := ?_)))); all_goals ((try conv => whnf); try with_reducible exact trivial)
  · intro c hc0
    have hc0 : c ≤ d.S.length := hc0
    (repeat' ((conv => whnf); (first | (with_reducible first | apply spl | apply spl') <;> intro hc <;> try (exfalso; omega) | with_reducible refine iJ fun hc => ?_ | refine vcq (k := ?_) | refine dr 18 (k := ?_)))); all_goals ((try conv => whnf); try with_reducible exact trivial); (repeat' ((first | (refine callee_fo (Cylinders49 d hd) rfl ?_; rintro _ rfl) | (refine pcall_intro (Cylinders49 d hd) rfl ?_) | (refine pcall_soft (fun _ => Cylinders49 d hd) rfl ?_)); (repeat' ((conv => whnf); (first | (with_reducible first | apply spl | apply spl') <;> intro hc <;> try (exfalso; omega) | with_reducible refine iJ fun hc => ?_ | refine vcq (k := ?_) | refine dr 18 (k := ?_)))); all_goals ((try conv => whnf); try with_reducible exact trivial)))
    · have hcl : c < d.S.length := by omega
      refine ⟨Nat, fun h => h ≤ d.H.toNat, fun h => d.H.toNat - h, fun h => [(5, .int .i64 (h : Nat)), (3, .osl 1 (fstS d.H.toNat d.S c h))], fun h => [(1, .row 76 3 (fstS d.H.toNat d.S c h) d.plR true)], fun _ => [], 0, ⟨by omega, none, ?_⟩, ?_⟩
      · (repeat' ((conv => whnf); (first | (with_reducible first | apply spl | apply spl') <;> intro hc <;> try (exfalso; omega) | with_reducible refine iJ fun hc => ?_ | refine vcq (k := ?_) | refine dr 18 (k := ?_)))); all_goals ((try conv => whnf); try with_reducible exact trivial)
      · intro h hh
        have hh : h ≤ d.H.toNat := hh
        (repeat' ((conv => whnf); (first | (with_reducible first | apply spl | apply spl') <;> intro hc <;> try (exfalso; omega) | with_reducible refine iJ fun hc => ?_ | refine vcq (k := ?_) | refine dr 18 (k := ?_)))); all_goals ((try conv => whnf); try with_reducible exact trivial)
        · have hhl : h < d.H.toNat := by omega
          refine ⟨Nat, fun s => s ≤ d.S.getD c 0, fun s => d.S.getD c 0 - s, fun s => [(6, .int .i64 (s : Nat)), (3, .osl 1 (fstS d.H.toNat d.S c h + s))], fun s => [(1, .row 76 3 (fstS d.H.toNat d.S c h + s) d.plR true)], fun _ => [], 0, ⟨by omega, none, ?_⟩, ?_⟩
          · (repeat' ((conv => whnf); (first | (with_reducible first | apply spl | apply spl') <;> intro hc <;> try (exfalso; omega) | with_reducible refine iJ fun hc => ?_ | refine vcq (k := ?_) | refine dr 18 (k := ?_)))); all_goals ((try conv => whnf); try with_reducible exact trivial)
            rfl
          · intro s hs0
            have hs0 : s ≤ d.S.getD c 0 := hs0
            (repeat' ((conv => whnf); (first | (with_reducible first | apply spl | apply spl') <;> intro hc <;> try (exfalso; omega) | with_reducible refine iJ fun hc => ?_ | refine vcq (k := ?_) | refine dr 18 (k := ?_)))); all_goals ((try conv => whnf); try with_reducible exact trivial); (repeat' ((first | (refine callee_fo (Sectors54 d hd c hcl) rfl ?_; rintro _ rfl) | (refine pcall_intro (Sectors54 d hd c hcl) rfl ?_) | (refine pcall_soft (fun _ => Sectors54 d hd c hcl) rfl ?_)); (repeat' ((conv => whnf); (first | (with_reducible first | apply spl | apply spl') <;> intro hc <;> try (exfalso; omega) | with_reducible refine iJ fun hc => ?_ | refine vcq (k := ?_) | refine dr 18 (k := ?_)))); all_goals ((try conv => whnf); try with_reducible exact trivial)))
            · have hsl : s < d.S.getD c 0 := by omega
              have hat : AtS d.H.toNat d.S (fstS d.H.toNat d.S c h + s) c h s := ⟨hcl, hhl, hsl, rfl⟩
              have hb := at_lt hat
              have hloc := loc_of hat
              have hb : fstS d.H.toNat d.S c h + s < d.cnt := hb
              refine ⟨by omega, ?_⟩
              (repeat' ((conv => whnf); (first | (with_reducible first | apply spl | apply spl') <;> intro hc <;> try (exfalso; omega) | with_reducible refine iJ fun hc => ?_ | refine vcq (k := ?_) | refine dr 18 (k := ?_)))); all_goals ((try conv => whnf); try with_reducible exact trivial)
              refine ⟨s + 1, ⟨by omega, by dsimp only; omega⟩, some [some 0, some 3], ?_⟩
              (repeat' ((conv => whnf); (first | (with_reducible first | apply spl | apply spl') <;> intro hc <;> try (exfalso; omega) | with_reducible refine iJ fun hc => ?_ | refine vcq (k := ?_) | refine dr 18 (k := ?_)))); all_goals ((try conv => whnf); try with_reducible exact trivial)
              refine ⟨appF_one (by unfold Dk.plR; rw [hloc]; rfl), ?_⟩
              (repeat' ((conv => whnf); (first | (with_reducible first | apply spl | apply spl') <;> intro hc <;> try (exfalso; omega) | with_reducible refine iJ fun hc => ?_ | refine vcq (k := ?_) | refine dr 18 (k := ?_)))); all_goals ((try conv => whnf); try with_reducible exact trivial)
            · obtain rfl : s = d.S.getD c 0 := by omega
              rw [show fstS d.H.toNat d.S c h + d.S.getD c 0 = fstS d.H.toNat d.S c (h + 1) from (fstS_head _ _ _ _).symm]
              refine ⟨h + 1, ⟨by omega, by dsimp only; omega⟩, none, ?_⟩
              (repeat' ((conv => whnf); (first | (with_reducible first | apply spl | apply spl') <;> intro hc <;> try (exfalso; omega) | with_reducible refine iJ fun hc => ?_ | refine vcq (k := ?_) | refine dr 18 (k := ?_)))); all_goals ((try conv => whnf); try with_reducible exact trivial)
        · obtain rfl : h = d.H.toNat := by omega
          rw [← fstS_cyl d.H.toNat d.S c hcl]
          refine ⟨c + 1, ⟨by omega, by dsimp only; omega⟩, some [some 0, some 1], ?_⟩
          (repeat' ((conv => whnf); (first | (with_reducible first | apply spl | apply spl') <;> intro hc <;> try (exfalso; omega) | with_reducible refine iJ fun hc => ?_ | refine vcq (k := ?_) | refine dr 18 (k := ?_)))); all_goals ((try conv => whnf); try with_reducible exact trivial)
    · obtain rfl : c = d.S.length := by omega
      rw [hall]
      refine ⟨_, rfl, ?_⟩
      (repeat' ((conv => whnf); (first | (with_reducible first | apply spl | apply spl') <;> intro hc <;> try (exfalso; omega) | with_reducible refine iJ fun hc => ?_ | refine vcq (k := ?_) | refine dr 18 (k := ?_)))); all_goals ((try conv => whnf); try with_reducible exact trivial)
end Go.Proofs

namespace Go.Proofs
open Go Go.Sx
set_option maxRecDepth 100000
set_option maxHeartbeats 4000000
namespace Dk
theorem off_facts {d : Dk} (hd : d.Ok) {c h : Nat} (hc : c < d.S.length) (hh : h < d.H.toNat) :
    (0 ≤ (c : Int) * d.ck ∧ (c : Int) * d.ck ≤ 80 * 999) ∧ (0 ≤ (c : Int) * (d.H - 1) ∧ (c : Int) * (d.H - 1) ≤ 80 * 3) ∧ (0 ≤ ((c : Int) * (d.H - 1) + h) * d.hk ∧ ((c : Int) * (d.H - 1) + h) * d.hk ≤ 243 * 999) ∧ 0 ≤ d.off c h ∧ d.off c h < d.T := by
  have h1 := hd.h
  have h2 := hd.t
  have h3 := hd.ck
  have h4 := hd.hk
  have hS := d.S_len hd
  have a1 := mul_bnd0 (a := (c : Int)) (b := d.ck) (m := 80) (n := 999) (by omega) (by omega) (by omega) (by omega)
  have a2 := mul_bnd0 (a := (c : Int)) (b := d.H - 1) (m := 80) (n := 3) (by omega) (by omega) (by omega) (by omega)
  have a3 := mul_bnd0 (a := (c : Int) * (d.H - 1) + h) (b := d.hk) (m := 243) (n := 999) (by omega) (by omega) (by omega) (by omega)
  exact ⟨a1, a2, a3, Int.emod_nonneg _ (by omega), Int.emod_lt_of_pos _ (by omega)⟩
theorem dur_facts {d : Dk} (hd : d.Ok) {c : Nat} (hc : c < d.S.length) : (0 < (d.S.getD c 0 : Int) ∧ (d.S.getD c 0 : Int) ≤ 16) ∧ d.T.tdiv (d.S.getD c 0 : Nat) = d.T / (d.S.getD c 0 : Nat) ∧ 0 ≤ d.T / (d.S.getD c 0 : Nat) ∧ d.T / (d.S.getD c 0 : Nat) ≤ 1000 := by
  have h2 := hd.t
  have hp := S_pos hd (d.S.getD c 0) (by rw [getD_get hc]; exact List.getElem_mem hc)
  refine ⟨by omega, Int.tdiv_eq_ediv_of_nonneg (by omega), Int.ediv_nonneg (by omega) (by omega), Int.le_trans (Int.ediv_le_self _ (by omega)) (by omega)⟩
end Dk
theorem offset78 (d : Dk) (hd : d.Ok) (c h : Nat) (hc : c < d.S.length) (hh : h < d.H.toNat) : PureC Try.prog 78 false [d.v, .int .i64 c, .int .i64 h] (· = .int .i64 (d.off c h)) := by
  obtain ⟨a1, a2, a3, a4⟩ := Dk.off_facts hd hc hh
  have h1 := hd.h
  have h2 := hd.t
  have h3 := hd.ck
  have h4 := hd.hk
  refine pureC_of_exec Try.E_ok Try.func78 rfl (by kernel_rfl) ?_
  (repeat' ((conv => whnf); (first | (with_reducible first | apply spl | apply spl') <;> intro hc <;> try (exfalso; omega) | with_reducible refine iJ fun hc => ?_ | refine vcq (k := ?_) | refine dr 13 (k := ?_)))); all_goals ((try conv => whnf); try with_reducible exact trivial)
  rw [Int.tmod_eq_emod_of_nonneg (by omega)]
  refine ⟨_, rfl, ?_⟩
  (repeat' ((conv => whnf); (first | (with_reducible first | apply spl | apply spl') <;> intro hc <;> try (exfalso; omega) | with_reducible refine iJ fun hc => ?_ | refine vcq (k := ?_) | refine dr 13 (k := ?_)))); all_goals ((try conv => whnf); try with_reducible exact trivial)
theorem begins62 (d : Dk) (hd : d.Ok) (n c h s : Nat) (ha : AtS d.H.toNat d.S n c h s) : PureC Try.prog 62 false [d.v, .agg [.int .i64 c, .int .i64 h, .int .i64 s]] (· = .int .i64 (d.ang n)) := by
  have h2 := hd.t
  obtain ⟨b1, b2, b3⟩ := Dk.dur_facts hd ha.1
  obtain ⟨_, _, _, a4⟩ := Dk.off_facts hd ha.1 ha.2.1
  have m1 := mul_bnd0 (a := (s : Int)) (b := d.T / (d.S.getD c 0 : Nat)) (m := 16) (n := 1000) (by omega) (by have := ha.2.2.1; omega) b3.1 b3.2
  have e : d.ang n = (d.off c h + s * (d.T / (d.S.getD c 0 : Nat))) % d.T := by unfold Dk.ang; rw [loc_of ha]
  rw [e]
  refine pureC_of_exec Try.E_ok Try.func62 rfl (by kernel_rfl) ?_
  (repeat' ((conv => whnf); (first | (with_reducible first | apply spl | apply spl') <;> intro hc <;> try (exfalso; omega) | with_reducible refine iJ fun hc => ?_ | refine vcq (k := ?_) | refine dr 21 (k := ?_)))); all_goals ((try conv => whnf); try with_reducible exact trivial)
  refine pcall_intro (offset78 d hd c h ha.1 ha.2.1) rfl ?_
  (repeat' ((conv => whnf); (first | (with_reducible first | apply spl | apply spl') <;> intro hc <;> try (exfalso; omega) | with_reducible refine iJ fun hc => ?_ | refine vcq (k := ?_) | refine dr 21 (k := ?_)))); all_goals ((try conv => whnf); try with_reducible exact trivial)
  refine pcall_intro (Sectors54 d hd c ha.1) rfl ?_
  (repeat' ((conv => whnf); (first | (with_reducible first | apply spl | apply spl') <;> intro hc <;> try (exfalso; omega) | with_reducible refine iJ fun hc => ?_ | refine vcq (k := ?_) | refine dr 21 (k := ?_)))); all_goals ((try conv => whnf); try with_reducible exact trivial)
  rw [b2]
  (repeat' ((conv => whnf); (first | (with_reducible first | apply spl | apply spl') <;> intro hc <;> try (exfalso; omega) | with_reducible refine iJ fun hc => ?_ | refine vcq (k := ?_) | refine dr 21 (k := ?_)))); all_goals ((try conv => whnf); try with_reducible exact trivial)
  rw [Int.tmod_eq_emod_of_nonneg (by omega)]
  refine ⟨_, rfl, ?_⟩
  (repeat' ((conv => whnf); (first | (with_reducible first | apply spl | apply spl') <;> intro hc <;> try (exfalso; omega) | with_reducible refine iJ fun hc => ?_ | refine vcq (k := ?_) | refine dr 13 (k := ?_)))); all_goals ((try conv => whnf); try with_reducible exact trivial)
theorem After41 (d : Dk) (hd : d.Ok) (t a : Int) (h1 : -1000000000000 ≤ t ∧ t ≤ 1000000000000) (h2 : -1000000000000 ≤ a ∧ a ≤ 1000000000000) : PureC Try.prog 41 false [d.v, .int .i64 t, .int .i64 a] (· = .int .i64 (((a - t) % d.T + d.T) % d.T)) := by
  have h3 := hd.t
  have h4 := Int.tmod_lt_of_pos (a - t) (show 0 < d.T by omega)
  have h5 := Int.lt_tmod_of_pos (a - t) (show 0 < d.T by omega)
  rw [← tmod_fix (by omega)]
  refine pureC_of_exec Try.E_ok Try.func41 rfl (by kernel_rfl) ?_
  (repeat' ((conv => whnf); (first | (with_reducible first | apply spl | apply spl') <;> intro hc <;> try (exfalso; omega) | with_reducible refine iJ fun hc => ?_ | refine vcq (k := ?_) | refine dr 13 (k := ?_)))); all_goals ((try conv => whnf); try with_reducible exact trivial)
  refine ⟨_, rfl, ?_⟩
  (repeat' ((conv => whnf); (first | (with_reducible first | apply spl | apply spl') <;> intro hc <;> try (exfalso; omega) | with_reducible refine iJ fun hc => ?_ | refine vcq (k := ?_) | refine dr 13 (k := ?_)))); all_goals ((try conv => whnf); try with_reducible exact trivial)
theorem checkSector61 (d : Dk) (hd : d.Ok) (n : Nat) (hn : n < d.cnt) : PureC Try.prog 61 false [d.v, .int .i64 n] (· = .int .i64 0) := by
  have hz := hd.z
  have hk := Dk.chk_of hd
  refine pureC_of_exec Try.E_ok Try.func61 rfl (by kernel_rfl) ?_
  (repeat' ((conv => whnf); (first | (with_reducible first | apply spl | apply spl') <;> intro hc <;> try (exfalso; omega) | with_reducible refine iJ fun hc => ?_ | refine vcq (k := ?_) | refine dr 13 (k := ?_)))); all_goals ((try conv => whnf); try with_reducible exact trivial); (repeat' ((first | (refine callee_fo (Check37 d (by omega)) rfl ?_; rintro _ rfl) | (refine pcall_intro (Check37 d (by omega)) rfl ?_) | (refine pcall_soft (fun _ => Check37 d (by omega)) rfl ?_) | (refine callee_fo (IsSector56 d hd n) rfl ?_; rintro _ rfl) | (refine pcall_intro (IsSector56 d hd n) rfl ?_) | (refine pcall_soft (fun _ => IsSector56 d hd n) rfl ?_)); (repeat' ((conv => whnf); (first | (with_reducible first | apply spl | apply spl') <;> intro hc <;> try (exfalso; omega) | with_reducible refine iJ fun hc => ?_ | refine vcq (k := ?_) | refine dr 13 (k := ?_)))); all_goals ((try conv => whnf); try with_reducible exact trivial)))
  refine ⟨_, rfl, ?_⟩
  (repeat' ((conv => whnf); (first | (with_reducible first | apply spl | apply spl') <;> intro hc <;> try (exfalso; omega) | with_reducible refine iJ fun hc => ?_ | refine vcq (k := ?_) | refine dr 13 (k := ?_)))); all_goals ((try conv => whnf); try with_reducible exact trivial)
theorem Angle40 (d : Dk) (hd : d.Ok) (n : Nat) (hn : n < d.cnt) : PureC Try.prog 40 false [d.v, .int .i64 n] (· = .tup [.int .i64 (d.ang n), .int .i64 (durS d.H.toNat d.S d.T n), .int .i64 0]) := by
  have hat := at_loc (H := d.H.toNat) (S := d.S) hn
  have hcn := d.cnt_le hd
  refine pureC_of_exec Try.E_ok Try.func40 rfl (by kernel_rfl) ?_
  (repeat' ((conv => whnf); (first | (with_reducible first | apply spl | apply spl') <;> intro hc <;> try (exfalso; omega) | with_reducible refine iJ fun hc => ?_ | refine vcq (k := ?_) | refine dr 13 (k := ?_)))); all_goals ((try conv => whnf); try with_reducible exact trivial)
  refine callee_fo (checkSector61 d hd n hn) rfl ?_
  rintro _ rfl
  (repeat' ((conv => whnf); (first | (with_reducible first | apply spl | apply spl') <;> intro hc <;> try (exfalso; omega) | with_reducible refine iJ fun hc => ?_ | refine vcq (k := ?_) | refine dr 13 (k := ?_)))); all_goals ((try conv => whnf); try with_reducible exact trivial)
  refine callee_fo (Places36 d hd) rfl ?_
  rintro _ rfl
  (repeat' ((conv => whnf); (first | (with_reducible first | apply spl | apply spl') <;> intro hc <;> try (exfalso; omega) | with_reducible refine iJ fun hc => ?_ | refine vcq (k := ?_) | refine dr 13 (k := ?_)))); all_goals ((try conv => whnf); try with_reducible exact trivial)
  have htn : (n : Int).toNat = n := Int.toNat_natCast n
  rw [htn]
  refine pcall_intro (begins62 d hd n _ _ _ hat) rfl ?_
  (repeat' ((conv => whnf); (first | (with_reducible first | apply spl | apply spl') <;> intro hc <;> try (exfalso; omega) | with_reducible refine iJ fun hc => ?_ | refine vcq (k := ?_) | refine dr 13 (k := ?_)))); all_goals ((try conv => whnf); try with_reducible exact trivial)
  refine pcall_intro (Sectors54 d hd _ hat.1) rfl ?_
  obtain ⟨b1, b2, b3⟩ := Dk.dur_facts hd hat.1
  (repeat' ((conv => whnf); (first | (with_reducible first | apply spl | apply spl') <;> intro hc <;> try (exfalso; omega) | with_reducible refine iJ fun hc => ?_ | refine vcq (k := ?_) | refine dr 13 (k := ?_)))); all_goals ((try conv => whnf); try with_reducible exact trivial)
  rw [b2]
  (repeat' ((conv => whnf); (first | (with_reducible first | apply spl | apply spl') <;> intro hc <;> try (exfalso; omega) | with_reducible refine iJ fun hc => ?_ | refine vcq (k := ?_) | refine dr 13 (k := ?_)))); all_goals ((try conv => whnf); try with_reducible exact trivial)
  refine ⟨_, rfl, ?_⟩
  (repeat' ((conv => whnf); (first | (with_reducible first | apply spl | apply spl') <;> intro hc <;> try (exfalso; omega) | with_reducible refine iJ fun hc => ?_ | refine vcq (k := ?_) | refine dr 13 (k := ?_)))); all_goals ((try conv => whnf); try with_reducible exact trivial)
end Go.Proofs

namespace Go.Proofs
open Go Go.Sx
set_option maxRecDepth 100000
set_option maxHeartbeats 4000000
namespace Dk
def kd (d : Dk) (n : Nat) : Nat := kindS d.H.toNat d.S n
def sw (d : Dk) (k : Nat) : Int × Int := if k = 1 then d.hs else if k = 2 then d.cs else (0, 0)
def sk (d : Dk) (k : Nat) : Int := if k = 1 then d.hk else if k = 2 then d.ck else 0
theorem kd_le (d : Dk) (n : Nat) : d.kd n ≤ 2 := by unfold kd kindS; split <;> (try split) <;> omega
end Dk
theorem Switches58 (d : Dk) (hd : d.Ok) (fr ct : Nat) (h1 : 1 ≤ ct) (h2 : fr + ct ≤ d.cnt) : PureC Try.prog 58 false [d.v, .int .i64 fr, .int .i64 ct] (· = .sl 1 (ct - 1) (fun i => [.int .i64 (d.kd (fr + 1 + i))])) := by
  have hcn := d.cnt_le hd
  refine pureC_of_exec Try.E_ok Try.func58 rfl (by kernel_rfl) ?_
  (repeat' ((conv => whnf); (first | (with_reducible first | apply spl | apply spl') <;> intro hc <;> try (exfalso; omega) | with_reducible refine iJ fun hc => ?_ | refine vcq (k := ?_) | refine dr 12 (k := ?_)))); all_goals ((try conv => whnf); try with_reducible exact trivial)
  refine callee_fo (Places36 d hd) rfl ?_
  rintro _ rfl
  (repeat' ((conv => whnf); (first | (with_reducible first | apply spl | apply spl') <;> intro hc <;> try (exfalso; omega) | with_reducible refine iJ fun hc => ?_ | refine vcq (k := ?_) | refine dr 12 (k := ?_)))); all_goals ((try conv => whnf); try with_reducible exact trivial)
  refine ⟨Nat, fun i => i ≤ ct - 1, fun i => ct - 1 - i, fun i => [(9, .int .i64 ((fr + 1 + i : Nat))), (8, .osl 1 i)], fun _ => [], fun i => [.row 3 1 i (fun i => [.int .i64 (d.kd (fr + 1 + i))]) true], 0, ⟨by omega, some [some 0, none], ?_⟩, ?_⟩
  · (repeat' ((conv => whnf); (first | (with_reducible first | apply spl | apply spl') <;> intro hc <;> try (exfalso; omega) | with_reducible refine iJ fun hc => ?_ | refine vcq (k := ?_) | refine dr 12 (k := ?_)))); all_goals ((try conv => whnf); try with_reducible exact trivial)
  · intro i hi
    have hi : i ≤ ct - 1 := hi
    have e1 : ((fr + 1 + i : Nat) : Int).toNat = fr + 1 + i := Int.toNat_natCast _
    have e2 : (((fr + 1 + i : Nat) : Int) - 1).toNat = fr + i := by omega
    have hk : d.kd (fr + 1 + i) = if (loc d.H.toNat d.S (fr + 1 + i)).1 ≠ (loc d.H.toNat d.S (fr + i)).1 then 2 else if (loc d.H.toNat d.S (fr + 1 + i)).2.1 ≠ (loc d.H.toNat d.S (fr + i)).2.1 then 1 else 0 := by
      unfold Dk.kd kindS
      rw [show fr + 1 + i - 1 = fr + i by omega]
    (repeat' ((conv => whnf); (first | (with_reducible first | apply spl | apply spl') <;> intro hc <;> try (exfalso; omega) | with_reducible refine iJ fun hc => ?_ | refine vcq (k := ?_) | refine dr 12 (k := ?_)))); all_goals ((try conv => whnf); try with_reducible exact trivial)
    · rw [e1, e2] at *
      have e : d.kd (fr + 1 + i) = 2 := by rw [hk, if_pos (by omega)]
      refine ⟨i + 1, ⟨by omega, by dsimp only; omega⟩, some [some 0, some 3], ?_⟩
      (repeat' ((conv => whnf); (first | (with_reducible first | apply spl | apply spl') <;> intro hc <;> try (exfalso; omega) | with_reducible refine iJ fun hc => ?_ | refine vcq (k := ?_) | refine dr 12 (k := ?_)))); all_goals ((try conv => whnf); try with_reducible exact trivial)
      refine ⟨appF_one (by rw [e]; rfl), ?_⟩
      (repeat' ((conv => whnf); (first | (with_reducible first | apply spl | apply spl') <;> intro hc <;> try (exfalso; omega) | with_reducible refine iJ fun hc => ?_ | refine vcq (k := ?_) | refine dr 12 (k := ?_)))); all_goals ((try conv => whnf); try with_reducible exact trivial)
    · rw [e1, e2] at *
      have e : d.kd (fr + 1 + i) = 1 := by rw [hk, if_neg (by omega), if_pos (by omega)]
      refine ⟨i + 1, ⟨by omega, by dsimp only; omega⟩, some [some 0, some 3], ?_⟩
      (repeat' ((conv => whnf); (first | (with_reducible first | apply spl | apply spl') <;> intro hc <;> try (exfalso; omega) | with_reducible refine iJ fun hc => ?_ | refine vcq (k := ?_) | refine dr 12 (k := ?_)))); all_goals ((try conv => whnf); try with_reducible exact trivial)
      refine ⟨appF_one (by rw [e]; rfl), ?_⟩
      (repeat' ((conv => whnf); (first | (with_reducible first | apply spl | apply spl') <;> intro hc <;> try (exfalso; omega) | with_reducible refine iJ fun hc => ?_ | refine vcq (k := ?_) | refine dr 12 (k := ?_)))); all_goals ((try conv => whnf); try with_reducible exact trivial)
    · rw [e1, e2] at *
      have e : d.kd (fr + 1 + i) = 0 := by rw [hk, if_neg (by omega), if_neg (by omega)]
      refine ⟨i + 1, ⟨by omega, by dsimp only; omega⟩, some [some 0, some 3], ?_⟩
      (repeat' ((conv => whnf); (first | (with_reducible first | apply spl | apply spl') <;> intro hc <;> try (exfalso; omega) | with_reducible refine iJ fun hc => ?_ | refine vcq (k := ?_) | refine dr 12 (k := ?_)))); all_goals ((try conv => whnf); try with_reducible exact trivial)
      refine ⟨appF_one (by rw [e]; rfl), ?_⟩
      (repeat' ((conv => whnf); (first | (with_reducible first | apply spl | apply spl') <;> intro hc <;> try (exfalso; omega) | with_reducible refine iJ fun hc => ?_ | refine vcq (k := ?_) | refine dr 12 (k := ?_)))); all_goals ((try conv => whnf); try with_reducible exact trivial)
    · obtain rfl : i = ct - 1 := by omega
      refine ⟨_, rfl, ?_⟩
      (repeat' ((conv => whnf); (first | (with_reducible first | apply spl | apply spl') <;> intro hc <;> try (exfalso; omega) | with_reducible refine iJ fun hc => ?_ | refine vcq (k := ?_) | refine dr 12 (k := ?_)))); all_goals ((try conv => whnf); try with_reducible exact trivial)
theorem SwitchOf59 (d : Dk) (k : Nat) (hk : k ≤ 2) : PureC Try.prog 59 false [d.v, .int .i64 k] (· = .tup [.agg [.int .i64 (d.sw k).1, .int .i64 (d.sw k).2], .int .i64 (d.sk k)]) := by
  have hk3 : k = 0 ∨ k = 1 ∨ k = 2 := by omega
  refine pureC_of_exec Try.E_ok Try.func59 rfl (by kernel_rfl) ?_
  rcases hk3 with rfl | rfl | rfl
  · (repeat' ((conv => whnf); (first | (with_reducible first | apply spl | apply spl') <;> intro hc <;> try (exfalso; omega) | with_reducible refine iJ fun hc => ?_ | refine vcq (k := ?_) | refine dr 2004 (k := ?_)))); all_goals ((try conv => whnf); try with_reducible exact trivial)
    exact ⟨_, rfl, by (repeat' ((conv => whnf); (first | (with_reducible first | apply spl | apply spl') <;> intro hc <;> try (exfalso; omega) | with_reducible refine iJ fun hc => ?_ | refine vcq (k := ?_) | refine dr 12 (k := ?_)))); all_goals ((try conv => whnf); try with_reducible exact trivial)⟩
  · (repeat' ((conv => whnf); (first | (with_reducible first | apply spl | apply spl') <;> intro hc <;> try (exfalso; omega) | with_reducible refine iJ fun hc => ?_ | refine vcq (k := ?_) | refine dr 2004 (k := ?_)))); all_goals ((try conv => whnf); try with_reducible exact trivial)
    exact ⟨_, rfl, by (repeat' ((conv => whnf); (first | (with_reducible first | apply spl | apply spl') <;> intro hc <;> try (exfalso; omega) | with_reducible refine iJ fun hc => ?_ | refine vcq (k := ?_) | refine dr 12 (k := ?_)))); all_goals ((try conv => whnf); try with_reducible exact trivial)⟩
  · (repeat' ((conv => whnf); (first | (with_reducible first | apply spl | apply spl') <;> intro hc <;> try (exfalso; omega) | with_reducible refine iJ fun hc => ?_ | refine vcq (k := ?_) | refine dr 2004 (k := ?_)))); all_goals ((try conv => whnf); try with_reducible exact trivial)
    exact ⟨_, rfl, by (repeat' ((conv => whnf); (first | (with_reducible first | apply spl | apply spl') <;> intro hc <;> try (exfalso; omega) | with_reducible refine iJ fun hc => ?_ | refine vcq (k := ?_) | refine dr 12 (k := ?_)))); all_goals ((try conv => whnf); try with_reducible exact trivial)⟩
theorem Gap77 (d : Dk) (hd : d.Ok) (k : Nat) (hk : k ≤ 2) (t : Int) (ht : 0 ≤ t ∧ t ≤ 2000) : PureC Try.prog 77 false [d.v, .int .i64 k, .int .i64 t] (· = .int .i64 (d.gapOf (d.sk k) t)) := by
  have h2 := hd.t
  have h3 := hd.hk
  have h4 := hd.ck
  have hg := d.gap_bnd (by omega) (d.sk k) t
  have hsk : 0 ≤ d.sk k ∧ d.sk k ≤ 999 := by unfold Dk.sk; split <;> (try split) <;> omega
  refine pureC_of_exec Try.E_ok Try.func77 rfl (by kernel_rfl) ?_
  unfold Dk.gapOf at *
  (repeat' ((conv => whnf); (first | (with_reducible first | apply spl | apply spl') <;> intro hc <;> try (exfalso; omega) | with_reducible refine iJ fun hc => ?_ | refine vcq (k := ?_) | refine dr 12 (k := ?_)))); all_goals ((try conv => whnf); try with_reducible exact trivial); (repeat' ((first | (refine callee_fo (SwitchOf59 d k hk) rfl ?_; rintro _ rfl) | (refine pcall_intro (SwitchOf59 d k hk) rfl ?_) | (refine pcall_soft (fun _ => SwitchOf59 d k hk) rfl ?_) | (refine callee_fo (After41 d hd t (d.sk k) (by omega) (by omega)) rfl ?_; rintro _ rfl) | (refine pcall_intro (After41 d hd t (d.sk k) (by omega) (by omega)) rfl ?_) | (refine pcall_soft (fun _ => After41 d hd t (d.sk k) (by omega) (by omega)) rfl ?_)); (repeat' ((conv => whnf); (first | (with_reducible first | apply spl | apply spl') <;> intro hc <;> try (exfalso; omega) | with_reducible refine iJ fun hc => ?_ | refine vcq (k := ?_) | refine dr 12 (k := ?_)))); all_goals ((try conv => whnf); try with_reducible exact trivial)))
  refine ⟨_, rfl, ?_⟩
  (repeat' ((conv => whnf); (first | (with_reducible first | apply spl | apply spl') <;> intro hc <;> try (exfalso; omega) | with_reducible refine iJ fun hc => ?_ | refine vcq (k := ?_) | refine dr 12 (k := ?_)))); all_goals ((try conv => whnf); try with_reducible exact trivial)
def Dk.gapsTo (d : Dk) (fr : Nat) (g : Nat → Int) : Nat → Int
  | 0 => 0
  | i + 1 => Dk.gapsTo d fr g i + if 0 < d.kd (fr + 1 + i) then d.gapOf (d.sk (d.kd (fr + 1 + i))) (g i) else 0
theorem Dk.gapsTo_bnd {d : Dk} (hd : d.Ok) (fr : Nat) (g : Nat → Int) (hg : ∀ i, 0 ≤ g i ∧ g i ≤ 2000) : ∀ i : Nat, 0 ≤ d.gapsTo fr g i ∧ d.gapsTo fr g i ≤ i * 3000
  | 0 => by simp [gapsTo]
  | i + 1 => by
    have ih := Dk.gapsTo_bnd hd fr g hg i
    have h2 := hd.t
    have := d.gap_bnd (by omega) (d.sk (d.kd (fr + 1 + i))) (g i)
    have := hg i
    unfold gapsTo
    split <;> (push_cast; rw [Int.add_mul]; omega)
theorem Ticks60 (d : Dk) (hd : d.Ok) (fr ct : Nat) (h1 : 1 ≤ ct) (h2 : fr + ct ≤ d.cnt) (g : Nat → Int) (hg : ∀ i, 0 ≤ g i ∧ g i ≤ 2000) : PureC Try.prog 60 false [d.v, .int .i64 fr, .int .i64 ct, .sl 1 (ct - 1) (fun i => [.int .i64 (g i)])] (· = .int .i64 (sumR (durS d.H.toNat d.S d.T) fr ct + d.gapsTo fr g (ct - 1))) := by
  have hcn := d.cnt_le hd
  have hdur := Dk.sumR_bnd _ 1000 fr (Dk.dur_bnd hd)
  have hgs := Dk.gapsTo_bnd hd fr g hg
  refine pureC_of_exec Try.E_ok Try.func60 rfl (by kernel_rfl) ?_
  (repeat' ((conv => whnf); (first | (with_reducible first | apply spl | apply spl') <;> intro hc <;> try (exfalso; omega) | with_reducible refine iJ fun hc => ?_ | refine vcq (k := ?_) | refine dr 12 (k := ?_)))); all_goals ((try conv => whnf); try with_reducible exact trivial)
  refine callee_fo (Places36 d hd) rfl ?_
  rintro _ rfl
  (repeat' ((conv => whnf); (first | (with_reducible first | apply spl | apply spl') <;> intro hc <;> try (exfalso; omega) | with_reducible refine iJ fun hc => ?_ | refine vcq (k := ?_) | refine dr 12 (k := ?_)))); all_goals ((try conv => whnf); try with_reducible exact trivial)
  refine callee_fo (Switches58 d hd fr ct h1 h2) rfl ?_
  rintro _ rfl
  (repeat' ((conv => whnf); (first | (with_reducible first | apply spl | apply spl') <;> intro hc <;> try (exfalso; omega) | with_reducible refine iJ fun hc => ?_ | refine vcq (k := ?_) | refine dr 12 (k := ?_)))); all_goals ((try conv => whnf); try with_reducible exact trivial)
  refine ⟨Nat, fun i => i ≤ ct, fun i => ct - i, fun i => [(12, .int .i64 ((fr + i : Nat))), (11, .int .i64 (sumR (durS d.H.toNat d.S d.T) fr i))], fun _ => [], fun _ => [], 0, ⟨by omega, none, ?_⟩, ?_⟩
  · (repeat' ((conv => whnf); (first | (with_reducible first | apply spl | apply spl') <;> intro hc <;> try (exfalso; omega) | with_reducible refine iJ fun hc => ?_ | refine vcq (k := ?_) | refine dr 12 (k := ?_)))); all_goals ((try conv => whnf); try with_reducible exact trivial)
  · intro i hi
    have hi : i ≤ ct := hi
    have e1 : ((fr + i : Nat) : Int).toNat = fr + i := Int.toNat_natCast _
    (repeat' ((conv => whnf); (first | (with_reducible first | apply spl | apply spl') <;> intro hc <;> try (exfalso; omega) | with_reducible refine iJ fun hc => ?_ | refine vcq (k := ?_) | refine dr 12 (k := ?_)))); all_goals ((try conv => whnf); try with_reducible exact trivial)
    · have hil : i < ct := by omega
      have hat := at_loc (H := d.H.toNat) (S := d.S) (show fr + i < d.H.toNat * d.S.sum by show fr + i < d.cnt; omega)
      obtain ⟨b1, b2, b3⟩ := Dk.dur_facts hd hat.1
      have hdi := hdur i
      have hdi1 := hdur (i + 1)
      rw [e1]
      refine pcall_intro (Sectors54 d hd _ hat.1) rfl ?_
      (repeat' ((conv => whnf); (first | (with_reducible first | apply spl | apply spl') <;> intro hc <;> try (exfalso; omega) | with_reducible refine iJ fun hc => ?_ | refine vcq (k := ?_) | refine dr 12 (k := ?_)))); all_goals ((try conv => whnf); try with_reducible exact trivial)
      rw [b2]
      have e2 : sumR (durS d.H.toNat d.S d.T) fr (i + 1) = sumR (durS d.H.toNat d.S d.T) fr i + d.T / (d.S.getD (loc d.H.toNat d.S (fr + i)).1 0 : Nat) := rfl
      (repeat' ((conv => whnf); (first | (with_reducible first | apply spl | apply spl') <;> intro hc <;> try (exfalso; omega) | with_reducible refine iJ fun hc => ?_ | refine vcq (k := ?_) | refine dr 12 (k := ?_)))); all_goals ((try conv => whnf); try with_reducible exact trivial)
      refine ⟨i + 1, ⟨by omega, by dsimp only; omega⟩, none, ?_⟩
      (repeat' ((conv => whnf); (first | (with_reducible first | apply spl | apply spl') <;> intro hc <;> try (exfalso; omega) | with_reducible refine iJ fun hc => ?_ | refine vcq (k := ?_) | refine dr 12 (k := ?_)))); all_goals ((try conv => whnf); try with_reducible exact trivial)
    · obtain rfl : i = ct := by omega
      have hds := hdur i
      generalize hS0 : sumR (durS d.H.toNat d.S d.T) fr i = S0 at *
      refine ⟨Nat, fun j => j ≤ i - 1, fun j => i - 1 - j, fun j => [(13, .int .i64 (j : Nat)), (11, .int .i64 (S0 + d.gapsTo fr g j))], fun _ => [], fun _ => [], 0, ⟨by omega, none, ?_⟩, ?_⟩
      · (repeat' ((conv => whnf); (first | (with_reducible first | apply spl | apply spl') <;> intro hc <;> try (exfalso; omega) | with_reducible refine iJ fun hc => ?_ | refine vcq (k := ?_) | refine dr 12 (k := ?_)))); all_goals ((try conv => whnf); try with_reducible exact trivial)
        refine ⟨by simp [Dk.gapsTo], ?_⟩
        (repeat' ((conv => whnf); (first | (with_reducible first | apply spl | apply spl') <;> intro hc <;> try (exfalso; omega) | with_reducible refine iJ fun hc => ?_ | refine vcq (k := ?_) | refine dr 12 (k := ?_)))); all_goals ((try conv => whnf); try with_reducible exact trivial)
      · intro j hj
        have hj : j ≤ i - 1 := hj
        have htj : (j : Int).toNat = j := Int.toNat_natCast j
        have hgj := hg j
        have hgsj := hgs j
        have hgsj1 := hgs (j + 1)
        have e3 : d.gapsTo fr g (j + 1) = d.gapsTo fr g j + if 0 < d.kd (fr + 1 + j) then d.gapOf (d.sk (d.kd (fr + 1 + j))) (g j) else 0 := rfl
        (repeat' ((conv => whnf); (first | (with_reducible first | apply spl | apply spl') <;> intro hc <;> try (exfalso; omega) | with_reducible refine iJ fun hc => ?_ | refine vcq (k := ?_) | refine dr 12 (k := ?_)))); all_goals ((try conv => whnf); try with_reducible exact trivial)
        · rw [htj] at *
          rw [if_pos (by omega)] at e3
          refine pcall_intro (Gap77 d hd _ (d.kd_le _) (g j) hgj) rfl ?_
          (repeat' ((conv => whnf); (first | (with_reducible first | apply spl | apply spl') <;> intro hc <;> try (exfalso; omega) | with_reducible refine iJ fun hc => ?_ | refine vcq (k := ?_) | refine dr 12 (k := ?_)))); all_goals ((try conv => whnf); try with_reducible exact trivial)
          refine ⟨j + 1, ⟨by omega, by dsimp only; omega⟩, none, ?_⟩
          (repeat' ((conv => whnf); (first | (with_reducible first | apply spl | apply spl') <;> intro hc <;> try (exfalso; omega) | with_reducible refine iJ fun hc => ?_ | refine vcq (k := ?_) | refine dr 12 (k := ?_)))); all_goals ((try conv => whnf); try with_reducible exact trivial)
        · rw [htj] at *
          rw [if_neg (by omega)] at e3
          refine ⟨j + 1, ⟨by omega, by dsimp only; omega⟩, none, ?_⟩
          (repeat' ((conv => whnf); (first | (with_reducible first | apply spl | apply spl') <;> intro hc <;> try (exfalso; omega) | with_reducible refine iJ fun hc => ?_ | refine vcq (k := ?_) | refine dr 12 (k := ?_)))); all_goals ((try conv => whnf); try with_reducible exact trivial)
        · obtain rfl : j = i - 1 := by omega
          refine ⟨_, rfl, ?_⟩
          (repeat' ((conv => whnf); (first | (with_reducible first | apply spl | apply spl') <;> intro hc <;> try (exfalso; omega) | with_reducible refine iJ fun hc => ?_ | refine vcq (k := ?_) | refine dr 12 (k := ?_)))); all_goals ((try conv => whnf); try with_reducible exact trivial)
def Dk.swB (d : Dk) (hi : Bool) (fr i : Nat) : Int := if hi then (d.sw (d.kd (fr + 1 + i))).2 else (d.sw (d.kd (fr + 1 + i))).1
theorem Dk.swB_bnd {d : Dk} (hd : d.Ok) (hi : Bool) (fr i : Nat) : 0 ≤ d.swB hi fr i ∧ d.swB hi fr i ≤ 2000 := by
  have h1 := hd.hs
  have h2 := hd.cs
  unfold Dk.SpanOk at *
  unfold swB sw
  cases hi <;> simp only [Bool.false_eq_true, if_true, if_false] <;> split <;> (try split) <;> (try simp) <;> omega
theorem Dk.run_eq (d : Dk) (hi : Bool) (fr ct : Nat) : sumR (durS d.H.toNat d.S d.T) fr ct + d.gapsTo fr (d.swB hi fr) (ct - 1) = d.run hi fr ct := by
  have key : ∀ m, d.gapsTo fr (d.swB hi fr) m = sumR (fun i => d.gapK hi (kindS d.H.toNat d.S i)) (fr + 1) m := by
    intro m
    induction m with
    | zero => rfl
    | succ m ih =>
      unfold gapsTo sumR
      rw [ih]
      congr 1
      have hk := d.kd_le (fr + 1 + m)
      have hkk : kindS d.H.toNat d.S (fr + 1 + m) = d.kd (fr + 1 + m) := rfl
      unfold swB gapK
      rw [hkk]
      generalize d.kd (fr + 1 + m) = k at hk
      have : k = 0 ∨ k = 1 ∨ k = 2 := by omega
      rcases this with rfl | rfl | rfl
      · rfl
      · simp [sw, sk]
      · simp [sw, sk]
  unfold run
  rw [key]
theorem run39 (d : Dk) (hd : d.Ok) (fr ct : Nat) (h1 : 1 ≤ ct) (h2 : fr + ct ≤ d.cnt) : PureC Try.prog 39 false [d.v, .int .i64 fr, .int .i64 ct] (· = .agg [.int .i64 (d.run false fr ct), .int .i64 (d.run true fr ct)]) := by
  have hcn := d.cnt_le hd
  rw [← Dk.run_eq, ← Dk.run_eq]
  refine pureC_of_exec Try.E_ok Try.func39 rfl (by kernel_rfl) ?_
  (repeat' ((conv => whnf); (first | (with_reducible first | apply spl | apply spl') <;> intro hc <;> try (exfalso; omega) | with_reducible refine iJ fun hc => ?_ | refine vcq (k := ?_) | refine dr 12 (k := ?_)))); all_goals ((try conv => whnf); try with_reducible exact trivial)
  refine callee_fo (Switches58 d hd fr ct h1 h2) rfl ?_
  rintro _ rfl
  (repeat' ((conv => whnf); (first | (with_reducible first | apply spl | apply spl') <;> intro hc <;> try (exfalso; omega) | with_reducible refine iJ fun hc => ?_ | refine vcq (k := ?_) | refine dr 12 (k := ?_)))); all_goals ((try conv => whnf); try with_reducible exact trivial)
  refine ⟨Nat, fun i => i ≤ ct - 1, fun i => ct - 1 - i, fun i => [(10, .int .i64 (i : Nat)), (8, .osl 2 i), (9, .osl 3 i)], fun _ => [], fun i => [.row 3 1 i (fun i => [.int .i64 (d.swB false fr i)]) true, .row 3 1 i (fun i => [.int .i64 (d.swB true fr i)]) true], 0, ⟨by omega, some [some 0, some 1, none, none], ?_⟩, ?_⟩
  · (repeat' ((conv => whnf); (first | (with_reducible first | apply spl | apply spl') <;> intro hc <;> try (exfalso; omega) | with_reducible refine iJ fun hc => ?_ | refine vcq (k := ?_) | refine dr 12 (k := ?_)))); all_goals ((try conv => whnf); try with_reducible exact trivial)
  · intro i hi
    have hi : i ≤ ct - 1 := hi
    have hti : (i : Int).toNat = i := Int.toNat_natCast i
    (repeat' ((conv => whnf); (first | (with_reducible first | apply spl | apply spl') <;> intro hc <;> try (exfalso; omega) | with_reducible refine iJ fun hc => ?_ | refine vcq (k := ?_) | refine dr 2010 (k := ?_)))); all_goals ((try conv => whnf); try with_reducible exact trivial)
    · rw [hti]
      refine pcall_intro (SwitchOf59 d _ (d.kd_le _)) rfl ?_
      (repeat' ((conv => whnf); (first | (with_reducible first | apply spl | apply spl') <;> intro hc <;> try (exfalso; omega) | with_reducible refine iJ fun hc => ?_ | refine vcq (k := ?_) | refine dr 7090608050704062008 (k := ?_)))); all_goals ((try conv => whnf); try with_reducible exact trivial)
      refine ⟨i + 1, ⟨by omega, by dsimp only; omega⟩, some [some 0, some 1, some 7, some 8], ?_⟩
      (repeat' ((conv => whnf); (first | (with_reducible first | apply spl | apply spl') <;> intro hc <;> try (exfalso; omega) | with_reducible refine iJ fun hc => ?_ | refine vcq (k := ?_) | refine dr 12 (k := ?_)))); all_goals ((try conv => whnf); try with_reducible exact trivial)
      refine ⟨appF_one rfl, ?_⟩
      (repeat' ((conv => whnf); (first | (with_reducible first | apply spl | apply spl') <;> intro hc <;> try (exfalso; omega) | with_reducible refine iJ fun hc => ?_ | refine vcq (k := ?_) | refine dr 12 (k := ?_)))); all_goals ((try conv => whnf); try with_reducible exact trivial)
      refine ⟨appF_one rfl, ?_⟩
      (repeat' ((conv => whnf); (first | (with_reducible first | apply spl | apply spl') <;> intro hc <;> try (exfalso; omega) | with_reducible refine iJ fun hc => ?_ | refine vcq (k := ?_) | refine dr 12 (k := ?_)))); all_goals ((try conv => whnf); try with_reducible exact trivial)
    · obtain rfl : i = ct - 1 := by omega
      (repeat' ((conv => whnf); (first | (with_reducible first | apply spl | apply spl') <;> intro hc <;> try (exfalso; omega) | with_reducible refine iJ fun hc => ?_ | refine vcq (k := ?_) | refine dr 11 (k := ?_)))); all_goals ((try conv => whnf); try with_reducible exact trivial)
      refine pcall_view (Ticks60 d hd fr ct h1 h2 (d.swB false fr) (Dk.swB_bnd hd false fr)) ?_ ?_
      · (repeat' ((conv => whnf); (first | (with_reducible first | apply spl | apply spl') <;> intro hc <;> try (exfalso; omega) | with_reducible refine iJ fun hc => ?_ | refine vcq (k := ?_) | refine dr 12 (k := ?_)))); all_goals ((try conv => whnf); try with_reducible exact trivial)
      (repeat' ((conv => whnf); (first | (with_reducible first | apply spl | apply spl') <;> intro hc <;> try (exfalso; omega) | with_reducible refine iJ fun hc => ?_ | refine vcq (k := ?_) | refine dr 11 (k := ?_)))); all_goals ((try conv => whnf); try with_reducible exact trivial)
      refine pcall_view (Ticks60 d hd fr ct h1 h2 (d.swB true fr) (Dk.swB_bnd hd true fr)) ?_ ?_
      · (repeat' ((conv => whnf); (first | (with_reducible first | apply spl | apply spl') <;> intro hc <;> try (exfalso; omega) | with_reducible refine iJ fun hc => ?_ | refine vcq (k := ?_) | refine dr 12 (k := ?_)))); all_goals ((try conv => whnf); try with_reducible exact trivial)
      (repeat' ((conv => whnf); (first | (with_reducible first | apply spl | apply spl') <;> intro hc <;> try (exfalso; omega) | with_reducible refine iJ fun hc => ?_ | refine vcq (k := ?_) | refine dr 11 (k := ?_)))); all_goals ((try conv => whnf); try with_reducible exact trivial)
      refine ⟨_, rfl, ?_⟩
      (repeat' ((conv => whnf); (first | (with_reducible first | apply spl | apply spl') <;> intro hc <;> try (exfalso; omega) | with_reducible refine iJ fun hc => ?_ | refine vcq (k := ?_) | refine dr 12 (k := ?_)))); all_goals ((try conv => whnf); try with_reducible exact trivial)
theorem Run14 (d : Dk) (hd : d.Ok) (fr ct : Nat) (h1 : 1 ≤ ct) (h2 : fr + ct ≤ d.cnt) : PureC Try.prog 14 false [d.v, .int .i64 fr, .int .i64 ct] (· = .tup [.agg [.int .i64 (d.run false fr ct), .int .i64 (d.run true fr ct)], .int .i64 0]) := by
  have hcn := d.cnt_le hd
  have hz := hd.z
  have hk := Dk.chk_of hd
  refine pureC_of_exec Try.E_ok Try.func14 rfl (by kernel_rfl) ?_
  (repeat' ((conv => whnf); (first | (with_reducible first | apply spl | apply spl') <;> intro hc <;> try (exfalso; omega) | with_reducible refine iJ fun hc => ?_ | refine vcq (k := ?_) | refine dr 12 (k := ?_)))); all_goals ((try conv => whnf); try with_reducible exact trivial); (repeat' ((first | (refine callee_fo (Check37 d (by omega)) rfl ?_; rintro _ rfl) | (refine pcall_intro (Check37 d (by omega)) rfl ?_) | (refine pcall_soft (fun _ => Check37 d (by omega)) rfl ?_) | (refine callee_fo (IsRun38 d hd fr ct) rfl ?_; rintro _ rfl) | (refine pcall_intro (IsRun38 d hd fr ct) rfl ?_) | (refine pcall_soft (fun _ => IsRun38 d hd fr ct) rfl ?_) | (refine callee_fo (run39 d hd fr ct h1 h2) rfl ?_; rintro _ rfl) | (refine pcall_intro (run39 d hd fr ct h1 h2) rfl ?_) | (refine pcall_soft (fun _ => run39 d hd fr ct h1 h2) rfl ?_)); (repeat' ((conv => whnf); (first | (with_reducible first | apply spl | apply spl') <;> intro hc <;> try (exfalso; omega) | with_reducible refine iJ fun hc => ?_ | refine vcq (k := ?_) | refine dr 12 (k := ?_)))); all_goals ((try conv => whnf); try with_reducible exact trivial)))
  refine ⟨_, rfl, ?_⟩
  (repeat' ((conv => whnf); (first | (with_reducible first | apply spl | apply spl') <;> intro hc <;> try (exfalso; omega) | with_reducible refine iJ fun hc => ?_ | refine vcq (k := ?_) | refine dr 12 (k := ?_)))); all_goals ((try conv => whnf); try with_reducible exact trivial)
end Go.Proofs
