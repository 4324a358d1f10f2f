/- The small number functions of the program and of the reference: absolute value, quotient rounded down and up, seconds around the week, rounding. Each is told as a plain function of whole numbers; its arguments lie far inside int64. -/
import Derived.Test.YtphdphipnbclcaaDoorProg
import Derived.WalkKit
import Derived.WalkSpells
import Derived.WalkLawsBesides
import Derived.Lib.Hide
namespace Go.Proofs.YtphdphipnbclcaaDoor
open Go.RowKit

def absI (n : Int) : Int := if n < 0 then -n else n
theorem absI_neg {n : Int} (h : n < 0) : absI n = -n := by unfold absI; rw [if_pos h]
theorem absI_pos {n : Int} (h : 0 ≤ n) : absI n = n := by unfold absI; rw [if_neg (by omega)]

theorem ret_int {k : IntKind} {a b : Int} (h : a = b) : Ending.returned (.int k a) = .returned (.int k b) := by rw [h]

theorem tdiv_floor (n d : Int) (hd : 1 ≤ d) : (n.tmod d < 0 → n.tdiv d - 1 = n / d) ∧ (0 ≤ n.tmod d → n.tdiv d = n / d) := by
  have e := Int.mul_tdiv_add_tmod n d
  have h1 := Int.tmod_lt_of_pos n (show 0 < d by omega)
  have h2 := Int.lt_tmod_of_pos n (show 0 < d by omega)
  constructor
  · intro h
    have := (Int.ediv_emod_unique (a := n) (b := d) (r := n.tmod d + d) (q := n.tdiv d - 1) (by omega)).2 ⟨by rw [Int.mul_sub]; omega, by omega, by omega⟩
    exact this.1.symm
  · intro h
    have := (Int.ediv_emod_unique (a := n) (b := d) (r := n.tmod d) (q := n.tdiv d) (by omega)).2 ⟨by omega, by omega, by omega⟩
    exact this.1.symm

theorem tdiv_bd (n d B : Int) (hd : 1 ≤ d) (h0 : -B ≤ n) (h1 : n ≤ B) : -B ≤ n.tdiv d ∧ n.tdiv d ≤ B := by
  rw [tdiv_eq_if]
  split
  · rename_i hx; have := IntWalk.tdiv_le n d hx hd; omega
  · rename_i hx; have := IntWalk.tdiv_le (-n) d (by omega) hd; omega

theorem ediv_bd (n d B : Int) (hd : 1 ≤ d) (hB : 0 ≤ B) (h0 : -B ≤ n) (h1 : n ≤ B) : -B ≤ n / d ∧ n / d ≤ B := by
  constructor
  · have := Int.le_ediv_of_mul_le (a := -B) (b := n) (c := d) (by omega) (by
      have : B * 1 ≤ B * d := Int.mul_le_mul_of_nonneg_left hd hB
      rw [Int.neg_mul]; omega)
    exact this
  · have := Int.ediv_le_of_le_mul (a := n) (b := B) (c := d) (by omega) (by
      have : B * 1 ≤ B * d := Int.mul_le_mul_of_nonneg_left hd hB
      omega)
    exact this

set_option maxHeartbeats 400000 in
theorem abs_any (n : Int) (w : World) (h0 : -4611686018427387904 ≤ n) (h1 : n ≤ 4611686018427387904) :
    Calls Tryd.prog 13 #[.int .i64 n] w fun e w' => e = .returned (.int .i64 (absI n)) ∧ w = w' := by
  go_enter Tryd.func13, Tryd.ntmps13
  go_wp2
  · go_ret
    exact ⟨ret_int (absI_neg (by assumption)).symm, rfl⟩
  · go_ret
    exact ⟨ret_int (absI_pos (by omega)).symm, rfl⟩

set_option maxHeartbeats 400000 in
theorem size_any (n : Int) (w : World) (h0 : -4611686018427387904 ≤ n) (h1 : n ≤ 4611686018427387904) :
    Calls Tryd.prog 23 #[.int .i64 n] w fun e w' => e = .returned (.int .i64 (absI n)) ∧ w = w' := by
  by_cases h : n < 0
  · go_enter Tryd.func23, Tryd.ntmps23
    go_wp2
    go_ret
    exact ⟨ret_int (absI_neg h).symm, rfl⟩
  · go_enter Tryd.func23, Tryd.ntmps23
    go_wp2
    all_goals
      go_ret
      exact ⟨ret_int (by rw [absI_pos (by omega)] <;> omega), rfl⟩

set_option maxHeartbeats 400000 in
theorem down_any (n d : Int) (w : World) (h0 : -4611686018427387904 ≤ n) (h1 : n ≤ 4611686018427387904) (hd : 1 ≤ d) :
    Calls Tryd.prog 28 #[.int .i64 n, .int .i64 d] w fun e w' => e = .returned (.int .i64 (n / d)) ∧ w = w' := by
  obtain ⟨b0, b1⟩ := tdiv_bd n d _ hd h0 h1
  have hf := Lib.hid (tdiv_floor n d hd)
  go_enter Tryd.func28, Tryd.ntmps28
  go_wp2
  · go_ret
    exact ⟨ret_int (hf.out.1 (by assumption)), rfl⟩
  · go_ret
    exact ⟨ret_int (hf.out.2 (by assumption)), rfl⟩

set_option maxHeartbeats 400000 in
theorem floor_any (n d : Int) (w : World) (h0 : -4611686018427387904 ≤ n) (h1 : n ≤ 4611686018427387904) (hd : 1 ≤ d) :
    Calls Tryd.prog 17 #[.int .i64 n, .int .i64 d] w fun e w' => e = .returned (.int .i64 (n / d)) ∧ w = w' := by
  obtain ⟨b0, b1⟩ := tdiv_bd n d _ hd h0 h1
  have hf := Lib.hid (tdiv_floor n d hd)
  go_enter Tryd.func17, Tryd.ntmps17
  go_wp2
  · go_ret
    exact ⟨ret_int (hf.out.1 (by assumption)), rfl⟩
  · go_ret
    exact ⟨ret_int (hf.out.2 (by assumption)), rfl⟩

set_option maxHeartbeats 400000 in
theorem up_any (n d : Int) (w : World) (h0 : -4611686018427387904 ≤ n) (h1 : n ≤ 4611686018427387904) (hd : 1 ≤ d) :
    Calls Tryd.prog 25 #[.int .i64 n, .int .i64 d] w fun e w' => e = .returned (.int .i64 (-(-n / d))) ∧ w = w' := by
  obtain ⟨b0, b1⟩ := ediv_bd (-n) d 4611686018427387904 hd (by omega) (by omega) (by omega)
  go_enter Tryd.func25, Tryd.ntmps25
  go_wp2_with (go_at_call 28; refine (down_any _ _ _ (by omega) (by omega) hd).mono ?_; rintro e w' ⟨rfl, rfl⟩)
  go_ret
  exact ⟨rfl, rfl⟩

/-- Seconds counted around the week. -/
def wk (d : Int) : Int := (d + 302400) % 604800 - 302400

set_option maxHeartbeats 400000 in
theorem around_any (d : Int) (w : World) (h0 : -604800 < d) (h1 : d < 604800) :
    Calls Tryd.prog 36 #[.int .i64 d] w fun e w' => e = .returned (.int .i64 (wk d)) ∧ w = w' := by
  have k1 : -604800 < (d + 302400).tmod 604800 := Int.lt_tmod_of_pos _ (by omega)
  have k2 : (d + 302400).tmod 604800 < 604800 := Int.tmod_lt_of_pos _ (by omega)
  have k3 := Int.mul_tdiv_add_tmod (d + 302400) 604800
  have K := Lib.hid k3
  clear k3
  go_enter Tryd.func36, Tryd.ntmps36
  go_wp2
  go_ret
  refine ⟨ret_int ?_, rfl⟩
  have k4 := K.out
  unfold wk
  generalize (d + 302400).tmod 604800 = r at *
  generalize (d + 302400).tdiv 604800 = q at *
  omega

set_option maxHeartbeats 400000 in
theorem aroundR_any (d : Int) (w : World) (h0 : -604800 < d) (h1 : d < 604800) :
    Calls Tryd.prog 30 #[.int .i64 d] w fun e w' => e = .returned (.int .i64 (wk d)) ∧ w = w' := by
  have k3 : d.tmod 604800 = d := by
    rcases Int.lt_or_le d 0 with h | h
    · obtain ⟨m, rfl⟩ : ∃ m, d = -m := ⟨-d, by omega⟩
      rw [Int.neg_tmod, Int.tmod_eq_emod_of_nonneg (by omega)]; omega
    · rw [Int.tmod_eq_emod_of_nonneg h]; omega
  go_enter Tryd.func30, Tryd.ntmps30
  go_wp2
  all_goals
    go_ret
    refine ⟨ret_int ?_, rfl⟩
    unfold wk
    omega

/-- A number of 1,024ths, rounded to the nearest whole number. -/
def rnd (n : Int) : Int := if n < 0 then -((-n + 512) / 1024) else (n + 512) / 1024

set_option maxHeartbeats 400000 in
theorem roundedP_any (n : Int) (w : World) (h0 : 0 ≤ n) (h1 : n ≤ 1152921504606846976) :
    Calls Tryd.prog 41 #[.int .i64 n, .int .i64 1024] w fun e w' => e = .returned (.int .i64 (rnd n)) ∧ w = w' := by
  go_enter Tryd.func41, Tryd.ntmps41
  go_wp2_with fail
  all_goals
    go_ret
    refine ⟨ret_int ?_, rfl⟩
    unfold rnd
    rw [if_neg (by omega)]
    omega

set_option maxHeartbeats 400000 in
theorem rounded_any (n : Int) (w : World) (h0 : -1152921504606846976 ≤ n) (h1 : n ≤ 1152921504606846976) :
    Calls Tryd.prog 41 #[.int .i64 n, .int .i64 1024] w fun e w' => e = .returned (.int .i64 (rnd n)) ∧ w = w' := by
  by_cases h : 0 ≤ n
  · exact roundedP_any n w h h1
  · have hb : 0 ≤ rnd (-n) ∧ rnd (-n) ≤ 1152921504606846976 := by unfold rnd; rw [if_neg (by omega)]; omega
    obtain ⟨hb0, hb1⟩ := hb
    have hr : rnd n = -rnd (-n) := by unfold rnd; rw [if_pos (by omega), if_neg (by omega)]
    have HR := Lib.hid hr
    clear hr
    go_enter Tryd.func41, Tryd.ntmps41
    go_wp2_with (go_at_call 41; refine (roundedP_any _ _ (by omega) (by omega)).mono ?_; rintro e w' ⟨rfl, rfl⟩)
    go_ret
    exact ⟨ret_int HR.out.symm, rfl⟩
end Go.Proofs.YtphdphipnbclcaaDoor
