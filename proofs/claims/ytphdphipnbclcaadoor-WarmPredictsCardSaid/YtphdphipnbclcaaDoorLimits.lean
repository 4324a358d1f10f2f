/- The least and the greatest value of each of the thirteen fields of a page (field.Limits at the fields that almanac.fields lays). -/
import Derived.Test.YtphdphipnbclcaaDoorLeafB
import Derived.Test.YtphdphipnbclcaaDoorBlk
namespace Go.Proofs.YtphdphipnbclcaaDoor
open Go.RowKit

/-- The bits of field k, and where it begins. -/
def wd (k : Nat) : Int := [6, 20, 16, 20, 20, 14, 12, 20, 14, 12, 20, 14, 12].getD k 0
def atk (k : Nat) : Int := [0, 6, 26, 42, 62, 82, 96, 108, 128, 142, 154, 174, 188, 200].getD k 0
def loK (k : Nat) : Int := [0, 0, 0, 0, -524288, -8192, -2048, -524288, -8192, -2048, -524288, -8192, -2048].getD k 0
def hiK (k : Nat) : Int := [63, 1048575, 65535, 1048575, 524287, 8191, 2047, 524287, 8191, 2047, 524287, 8191, 2047].getD k 0
def sgK (k : Nat) : Bool := decide (3 < k)

abbrev fieldV (a b : Int) (s : Bool) : Value := .agg #[.int .i64 a, .int .i64 b, .bool s, .int .i64 1, .int .i64 0]

set_option maxHeartbeats 400000 in
theorem fcheck_any (a b : Int) (s : Bool) (w : World) (ha : 0 ≤ a ∧ a ≤ 1000) (hb : 1 ≤ b ∧ b ≤ 40) :
    Calls Tryd.prog 39 #[fieldV a b s] w fun e w' => e = .returned (.int .i64 0) ∧ Below w.heap.size w w' := by
  obtain ⟨a0, a1⟩ := ha
  obtain ⟨b0, b1⟩ := hb
  go_enter Tryd.func39, Tryd.ntmps39
  go_wp2
  go_ret
  exact ⟨rfl, (Below.refl _ _).alloc (Nat.le_refl _) _⟩

/-- A field of b bits, signed or not, and its least and greatest raw number. -/
def FK (b : Int) (s : Bool) (lo hi : Int) : Prop :=
  (b = 6 ∧ s = false ∧ lo = 0 ∧ hi = 63) ∨ (b = 20 ∧ s = false ∧ lo = 0 ∧ hi = 1048575) ∨ (b = 16 ∧ s = false ∧ lo = 0 ∧ hi = 65535) ∨
  (b = 20 ∧ s = true ∧ lo = -524288 ∧ hi = 524287) ∨ (b = 14 ∧ s = true ∧ lo = -8192 ∧ hi = 8191) ∨ (b = 12 ∧ s = true ∧ lo = -2048 ∧ hi = 2047)
theorem FK.bd {b : Int} {s : Bool} {lo hi : Int} (h : FK b s lo hi) : 1 ≤ b ∧ b ≤ 40 ∧ -1000000 ≤ lo ∧ lo ≤ 0 ∧ 0 ≤ hi ∧ hi ≤ 2000000 := by
  rcases h with ⟨rfl, rfl, rfl, rfl⟩ | ⟨rfl, rfl, rfl, rfl⟩ | ⟨rfl, rfl, rfl, rfl⟩ | ⟨rfl, rfl, rfl, rfl⟩ | ⟨rfl, rfl, rfl, rfl⟩ | ⟨rfl, rfl, rfl, rfl⟩ <;> omega

set_option maxHeartbeats 1000000 in
theorem raws_any (a b : Int) (s : Bool) (lo hi : Int) (w : World) (h : FK b s lo hi) :
    Calls Tryd.prog 40 #[fieldV a b s] w fun e w' => e = .returned (.tuple #[.int .i64 lo, .int .i64 hi]) ∧ Below w.heap.size w w' := by
  rcases h with ⟨rfl, rfl, rfl, rfl⟩ | ⟨rfl, rfl, rfl, rfl⟩ | ⟨rfl, rfl, rfl, rfl⟩ | ⟨rfl, rfl, rfl, rfl⟩ | ⟨rfl, rfl, rfl, rfl⟩ | ⟨rfl, rfl, rfl, rfl⟩
  all_goals
    go_enter Tryd.func40, Tryd.ntmps40
    go_wp2
    go_quiet (fail)
    go_wp2
    go_ret2
    exact ⟨rfl, below_drewN ((Below.refl _ _).alloc (Nat.le_refl _) _) _⟩

set_option maxHeartbeats 1000000 in
theorem limits_any (a b : Int) (s : Bool) (lo hi : Int) (w : World) (ha : 0 ≤ a ∧ a ≤ 1000) (h : FK b s lo hi) :
    Calls Tryd.prog 34 #[fieldV a b s] w fun e w' => e = .returned (.tuple #[.int .i64 lo, .int .i64 hi, .int .i64 0]) ∧ Below w.heap.size w w' := by
  obtain ⟨b0, b1, l0, l1, h0, h1⟩ := h.bd
  have H := Lib.hid h
  have A := Lib.hid ha
  clear h ha
  go_enter Tryd.func34, Tryd.ntmps34
  go_wp2_with fail
  refine (fcheck_any _ _ _ _ A.out ⟨b0, b1⟩).mono ?_
  rintro e w1 ⟨rfl, hb1⟩
  have k1 := (Blk.new w #[.int .i64 a, .int .i64 b, .bool s, .int .i64 1, .int .i64 0] 65).below hb1
  have B1 := Lib.hid (((Below.refl _ w).alloc (Nat.le_refl _) _).trans (hb1.mono (by simp)))
  clear hb1
  obtain ⟨hc1, hf1⟩ := row_cells k1
  go_wp2_with fail
  refine (raws_any _ _ _ _ _ _ H.out).mono ?_
  rintro e w2 ⟨rfl, hb2⟩
  have k2 := k1.below hb2
  have B2 := Lib.hid (B1.out.trans (hb2.mono B1.out.size))
  clear hb2 hc1 hf1 k1
  obtain ⟨hc2, hf2⟩ := row_cells k2
  go_wp2_with fail
  go_quiet (fail)
  go_wp2
  go_ret3
  exact ⟨rfl, below_drewN B2.out _⟩

/-- The fields' numbers, by their place. -/
theorem field_k (k : Nat) (hk : k < 13) : (0 ≤ atk k ∧ atk k ≤ 1000) ∧ FK (wd k) (sgK k) (loK k) (hiK k) := by
  rcases (show k = 0 ∨ k = 1 ∨ k = 2 ∨ k = 3 ∨ k = 4 ∨ k = 5 ∨ k = 6 ∨ k = 7 ∨ k = 8 ∨ k = 9 ∨ k = 10 ∨ k = 11 ∨ k = 12 by omega) with rfl | rfl | rfl | rfl | rfl | rfl | rfl | rfl | rfl | rfl | rfl | rfl | rfl <;>
    exact ⟨by simp [atk], by simp [FK, wd, sgK, loK, hiK]⟩

theorem limits_k (k : Nat) (hk : k < 13) (w : World) :
    Calls Tryd.prog 34 #[fieldV (atk k) (wd k) (sgK k)] w fun e w' => e = .returned (.tuple #[.int .i64 (loK k), .int .i64 (hiK k), .int .i64 0]) ∧ Below w.heap.size w w' :=
  limits_any _ _ _ _ _ w (field_k k hk).1 (field_k k hk).2
end Go.Proofs.YtphdphipnbclcaaDoor
