/- Functions over arrays of three numbers: the sum of the absolute values, the bound of a velocity, a coordinate at an age. -/
import Derived.Test.YtphdphipnbclcaaDoorLeafA
import Derived.BigQuiet
import Derived.Deep.QuietTactic
import Derived.WalkSmall
namespace Go.Proofs.YtphdphipnbclcaaDoor
open Go.RowKit

theorem absI_bd (n B : Int) (h0 : -B ≤ n) (h1 : n ≤ B) : 0 ≤ absI n ∧ absI n ≤ B := by unfold absI; split <;> omega

abbrev arr3 (a b c : Int) : Value := .agg #[.int .i64 a, .int .i64 b, .int .i64 c]

def lenI (a b c : Int) : Int := absI a + absI b + absI c

/-- A quiet callee in a quiet region that stands behind another quiet region: the draws add up. -/
theorem quiet_add_same {P : Program} {f : FuncId} {args : Array Value} {w : World} {a n : Nat} {v : Value}
    (h : Calls P f args (w.drewN (a + n)) fun e w' => e = .returned v ∧ w' = w.drewN (a + n)) :
    Calls P f args (w.drewN (a + n)) fun e w'' => e = .returned v ∧ ∃ m, w'' = w.drewN (a + m) :=
  h.mono fun _ _ ⟨he, hm⟩ => ⟨he, n, hm⟩

theorem size_q (n : Int) (w : World) (h0 : -4611686018427387904 ≤ n) (h1 : n ≤ 4611686018427387904) :
    Calls Tryd.prog 23 #[.int .i64 n] w fun e w' => e = .returned (.int .i64 (absI n)) ∧ w' = w :=
  (size_any n w h0 h1).mono fun _ _ h => ⟨h.1, h.2.symm⟩
theorem abs_q (n : Int) (w : World) (h0 : -4611686018427387904 ≤ n) (h1 : n ≤ 4611686018427387904) :
    Calls Tryd.prog 13 #[.int .i64 n] w fun e w' => e = .returned (.int .i64 (absI n)) ∧ w' = w :=
  (abs_any n w h0 h1).mono fun _ _ h => ⟨h.1, h.2.symm⟩
theorem up_q (n d : Int) (w : World) (h0 : -4611686018427387904 ≤ n) (h1 : n ≤ 4611686018427387904) (hd : 1 ≤ d) :
    Calls Tryd.prog 25 #[.int .i64 n, .int .i64 d] w fun e w' => e = .returned (.int .i64 (-(-n / d))) ∧ w' = w :=
  (up_any n d w h0 h1 hd).mono fun _ _ h => ⟨h.1, h.2.symm⟩
theorem floor_q (n d : Int) (w : World) (h0 : -4611686018427387904 ≤ n) (h1 : n ≤ 4611686018427387904) (hd : 1 ≤ d) :
    Calls Tryd.prog 17 #[.int .i64 n, .int .i64 d] w fun e w' => e = .returned (.int .i64 (n / d)) ∧ w' = w :=
  (floor_any n d w h0 h1 hd).mono fun _ _ h => ⟨h.1, h.2.symm⟩
theorem down_q (n d : Int) (w : World) (h0 : -4611686018427387904 ≤ n) (h1 : n ≤ 4611686018427387904) (hd : 1 ≤ d) :
    Calls Tryd.prog 28 #[.int .i64 n, .int .i64 d] w fun e w' => e = .returned (.int .i64 (n / d)) ∧ w' = w :=
  (down_any n d w h0 h1 hd).mono fun _ _ h => ⟨h.1, h.2.symm⟩

set_option maxHeartbeats 400000 in
theorem length_any (a b c : Int) (w : World) (ha : -1152921504606846976 ≤ a ∧ a ≤ 1152921504606846976) (hb : -1152921504606846976 ≤ b ∧ b ≤ 1152921504606846976) (hc : -1152921504606846976 ≤ c ∧ c ≤ 1152921504606846976) :
    Calls Tryd.prog 26 #[arr3 a b c] w fun e w' => e = .returned (.int .i64 (lenI a b c)) ∧ Below w.heap.size w w' := by
  obtain ⟨a0, a1⟩ := ha
  obtain ⟨b0, b1⟩ := hb
  obtain ⟨c0, c1⟩ := hc
  obtain ⟨ka0, ka1⟩ := absI_bd a 1152921504606846976 a0 a1
  obtain ⟨kb0, kb1⟩ := absI_bd b 1152921504606846976 b0 b1
  obtain ⟨kc0, kc1⟩ := absI_bd c 1152921504606846976 c0 c1
  go_enter Tryd.func26, Tryd.ntmps26
  go_wp2
  go_quiet ((go_at_call 23; exact Calls.quiet_of_same (size_q _ _ (by omega) (by omega))))
  go_wp2
  go_ret
  exact ⟨rfl, below_drewN ((Below.refl _ _).alloc (Nat.le_refl _) _) _⟩

/-- The bound of the velocity of an axis at an age. -/
def speedI (c1 c2 a : Int) : Int := absI c1 + (2 * absI c2 * a + 1023) / 1024

set_option maxHeartbeats 400000 in
theorem speed_any (c0 c1 c2 a : Int) (w : World) (h1 : -8192 ≤ c1 ∧ c1 ≤ 8191) (h2 : -2048 ≤ c2 ∧ c2 ≤ 2047) (ha : 0 ≤ a ∧ a ≤ 14400) :
    Calls Tryd.prog 15 #[arr3 c0 c1 c2, .int .i64 a] w fun e w' => e = .returned (.int .i64 (speedI c1 c2 a)) ∧ Below w.heap.size w w' := by
  obtain ⟨a0, a1⟩ := ha
  obtain ⟨k0, k1⟩ := absI_bd c1 8192 (by omega) (by omega)
  obtain ⟨k2, k3⟩ := absI_bd c2 2048 (by omega) (by omega)
  have m0 : 0 ≤ 2 * absI c2 * a := Int.mul_nonneg (by omega) a0
  have m1 : 2 * absI c2 * a ≤ 4096 * 14400 := Int.le_trans (Int.mul_le_mul_of_nonneg_right (by omega) a0) (Int.mul_le_mul_of_nonneg_left a1 (by omega))
  go_enter Tryd.func15, Tryd.ntmps15
  go_wp2
  go_quiet ((go_at_call 13; exact Calls.quiet_of_same (abs_q _ _ (by omega) (by omega))))
  go_wp2
  go_ret
  exact ⟨rfl, below_drewN ((Below.refl _ _).alloc (Nat.le_refl _) _) _⟩

/-- A coordinate at an age. -/
def axisI (c0 c1 c2 d : Int) : Int := rnd (1024 * (64 * c0 + c1 * d) + c2 * d * d)

theorem prod_bd {a b A B : Int} (a0 : -A ≤ a) (a1 : a ≤ A) (b0 : -B ≤ b) (b1 : b ≤ B) : -(A * B) ≤ a * b ∧ a * b ≤ A * B := by
  have h1 : 0 ≤ (A - a) * (B + b) := Int.mul_nonneg (by omega) (by omega)
  have h2 : 0 ≤ (A + a) * (B - b) := Int.mul_nonneg (by omega) (by omega)
  have h3 : 0 ≤ (A - a) * (B - b) := Int.mul_nonneg (by omega) (by omega)
  have h4 : 0 ≤ (A + a) * (B + b) := Int.mul_nonneg (by omega) (by omega)
  constructor
  · have : (A - a) * (B - b) + (A + a) * (B + b) = 2 * (A * B) + 2 * (a * b) := by grind
    omega
  · have : (A - a) * (B + b) + (A + a) * (B - b) = 2 * (A * B) - 2 * (a * b) := by grind
    omega

theorem rnd_neg {n : Int} (h : n < 0) : rnd n = -((-n + 512) / 1024) := by unfold rnd; rw [if_pos h]
theorem rnd_pos {n : Int} (h : 0 ≤ n) : rnd n = (n + 512) / 1024 := by unfold rnd; rw [if_neg (by omega)]

set_option maxHeartbeats 400000 in
theorem axis_any (c0 c1 c2 d : Int) (w : World) (h0 : -524288 ≤ c0 ∧ c0 ≤ 524287) (h1 : -8192 ≤ c1 ∧ c1 ≤ 8191) (h2 : -2048 ≤ c2 ∧ c2 ≤ 2047) (hd : -604800 ≤ d ∧ d ≤ 604800) :
    Calls Tryd.prog 31 #[arr3 c0 c1 c2, .int .i64 d] w fun e w' => e = .returned (.int .i64 (axisI c0 c1 c2 d)) ∧ Below w.heap.size w w' := by
  obtain ⟨d0, d1⟩ := hd
  obtain ⟨m0, m1⟩ := prod_bd (a := c1) (b := d) (A := 8192) (B := 604800) (by omega) (by omega) d0 d1
  obtain ⟨m2, m3⟩ := prod_bd (a := c2) (b := d) (A := 2048) (B := 604800) (by omega) (by omega) d0 d1
  obtain ⟨m4, m5⟩ := prod_bd (a := c2 * d) (b := d) (A := 2048 * 604800) (B := 604800) (by omega) (by omega) d0 d1
  go_enter Tryd.func31, Tryd.ntmps31
  go_wp2
  · go_ret
    exact ⟨ret_int (rnd_neg (by assumption)).symm, (Below.refl _ _).alloc (Nat.le_refl _) _⟩
  · go_ret
    exact ⟨ret_int (rnd_pos (by assumption)).symm, (Below.refl _ _).alloc (Nat.le_refl _) _⟩

set_option maxHeartbeats 400000 in
theorem at_any (c0 c1 c2 d : Int) (b o : Nat) (w : World) (k0 : w.cell? ⟨b, o, none⟩ = some (.int .i64 c0)) (k1 : w.cell? ⟨b, o + 1, none⟩ = some (.int .i64 c1)) (k2 : w.cell? ⟨b, o + 2, none⟩ = some (.int .i64 c2))
    (h0 : -524288 ≤ c0 ∧ c0 ≤ 524287) (h1 : -8192 ≤ c1 ∧ c1 ≤ 8191) (h2 : -2048 ≤ c2 ∧ c2 ≤ 2047) (hd : -604800 ≤ d ∧ d ≤ 604800) :
    Calls Tryd.prog 37 #[.pointer (some ⟨b, o, none⟩), .int .i64 d] w fun e w' => e = .returned (.int .i64 (axisI c0 c1 c2 d)) ∧ Below w.heap.size w w' := by
  obtain ⟨d0, d1⟩ := hd
  obtain ⟨m0, m1⟩ := prod_bd (a := c1) (b := d) (A := 8192) (B := 604800) (by omega) (by omega) d0 d1
  obtain ⟨m2, m3⟩ := prod_bd (a := c2) (b := d) (A := 2048) (B := 604800) (by omega) (by omega) d0 d1
  obtain ⟨m4, m5⟩ := prod_bd (a := c2 * d) (b := d) (A := 2048 * 604800) (B := 604800) (by omega) (by omega) d0 d1
  have hx : (64 * c0 + c1 * d) * 1024 + c2 * d * d = 1024 * (64 * c0 + c1 * d) + c2 * d * d := by omega
  have HX := Lib.hid hx
  clear hx
  go_enter Tryd.func37, Tryd.ntmps37
  go_wp2_with (go_at_call 41; refine (rounded_any _ _ (by omega) (by omega)).mono ?_; rintro e w' ⟨rfl, rfl⟩)
  go_ret
  exact ⟨ret_int (by unfold axisI; rw [HX.out]), (Below.refl _ _).alloc (Nat.le_refl _) _⟩

end Go.Proofs.YtphdphipnbclcaaDoor
