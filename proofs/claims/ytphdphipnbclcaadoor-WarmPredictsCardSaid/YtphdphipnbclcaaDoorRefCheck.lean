/- The reference's check of a page (skyfixref27.Check) returns 0 for a page whose numbers are in range, and 2 (ErrRange) for every other page. -/
import Derived.Test.YtphdphipnbclcaaDoorLeafB
namespace Go.Proofs.YtphdphipnbclcaaDoor
open Go.RowKit

/-- A page's thirteen numbers. -/
structure Pg where
  prn : Int
  t0 : Int
  er : Int
  gr : Int
  x0 : Int
  x1 : Int
  x2 : Int
  y0 : Int
  y1 : Int
  y2 : Int
  z0 : Int
  z1 : Int
  z2 : Int

abbrev Pg.v (p : Pg) : Value := .agg #[.int .i64 p.prn, .int .i64 p.t0, .int .i64 p.er, .int .i64 p.gr, .int .i64 p.x0, .int .i64 p.x1, .int .i64 p.x2, .int .i64 p.y0, .int .i64 p.y1, .int .i64 p.y2, .int .i64 p.z0, .int .i64 p.z1, .int .i64 p.z2]

/-- A page's numbers are in range. -/
structure POk (p : Pg) : Prop where
  prn0 : 1 ≤ p.prn
  prn1 : p.prn ≤ 63
  t00 : 0 ≤ p.t0
  t01 : p.t0 ≤ 604799
  er0 : 0 ≤ p.er
  er1 : p.er ≤ 65535
  gr0 : 0 ≤ p.gr
  gr1 : p.gr ≤ 1048575
  x0 : -524288 ≤ p.x0 ∧ p.x0 ≤ 524287
  y0 : -524288 ≤ p.y0 ∧ p.y0 ≤ 524287
  z0 : -524288 ≤ p.z0 ∧ p.z0 ≤ 524287
  x1 : -8192 ≤ p.x1 ∧ p.x1 ≤ 8191
  y1 : -8192 ≤ p.y1 ∧ p.y1 ≤ 8191
  z1 : -8192 ≤ p.z1 ∧ p.z1 ≤ 8191
  x2 : -2048 ≤ p.x2 ∧ p.x2 ≤ 2047
  y2 : -2048 ≤ p.y2 ∧ p.y2 ≤ 2047
  z2 : -2048 ≤ p.z2 ∧ p.z2 ≤ 2047

theorem ret_bool {a b : Bool} (h : a = b) : Ending.returned (.bool a) = .returned (.bool b) := by rw [h]

set_option maxHeartbeats 400000 in
theorem within20_t (n : Int) (w : World) (h : -524288 ≤ n ∧ n ≤ 524287) : Calls Tryd.prog 29 #[.int .i64 n, .int .i64 20] w fun e w' => e = .returned (.bool true) ∧ w' = w := by
  obtain ⟨h0, h1⟩ := h
  go_enter Tryd.func29, Tryd.ntmps29
  go_wp2
  go_ret
  exact ⟨ret_bool (decide_eq_true (by omega)), rfl⟩
set_option maxHeartbeats 400000 in
theorem within20_f (n : Int) (w : World) (h : ¬ (-524288 ≤ n ∧ n ≤ 524287)) : Calls Tryd.prog 29 #[.int .i64 n, .int .i64 20] w fun e w' => e = .returned (.bool false) ∧ w' = w := by
  rcases Int.lt_or_le n (-524288) with h0 | h0
  · clear h
    go_enter Tryd.func29, Tryd.ntmps29
    go_wp2
    go_ret
    exact ⟨rfl, rfl⟩
  · have h1 : 524288 ≤ n := by omega
    clear h
    go_enter Tryd.func29, Tryd.ntmps29
    go_wp2
    go_ret
    exact ⟨ret_bool (decide_eq_false (by omega)), rfl⟩

set_option maxHeartbeats 400000 in
theorem within14_t (n : Int) (w : World) (h : -8192 ≤ n ∧ n ≤ 8191) : Calls Tryd.prog 29 #[.int .i64 n, .int .i64 14] w fun e w' => e = .returned (.bool true) ∧ w' = w := by
  obtain ⟨h0, h1⟩ := h
  go_enter Tryd.func29, Tryd.ntmps29
  go_wp2
  go_ret
  exact ⟨ret_bool (decide_eq_true (by omega)), rfl⟩
set_option maxHeartbeats 400000 in
theorem within14_f (n : Int) (w : World) (h : ¬ (-8192 ≤ n ∧ n ≤ 8191)) : Calls Tryd.prog 29 #[.int .i64 n, .int .i64 14] w fun e w' => e = .returned (.bool false) ∧ w' = w := by
  rcases Int.lt_or_le n (-8192) with h0 | h0
  · clear h
    go_enter Tryd.func29, Tryd.ntmps29
    go_wp2
    go_ret
    exact ⟨rfl, rfl⟩
  · have h1 : 8192 ≤ n := by omega
    clear h
    go_enter Tryd.func29, Tryd.ntmps29
    go_wp2
    go_ret
    exact ⟨ret_bool (decide_eq_false (by omega)), rfl⟩

set_option maxHeartbeats 400000 in
theorem within12_t (n : Int) (w : World) (h : -2048 ≤ n ∧ n ≤ 2047) : Calls Tryd.prog 29 #[.int .i64 n, .int .i64 12] w fun e w' => e = .returned (.bool true) ∧ w' = w := by
  obtain ⟨h0, h1⟩ := h
  go_enter Tryd.func29, Tryd.ntmps29
  go_wp2
  go_ret
  exact ⟨ret_bool (decide_eq_true (by omega)), rfl⟩
set_option maxHeartbeats 400000 in
theorem within12_f (n : Int) (w : World) (h : ¬ (-2048 ≤ n ∧ n ≤ 2047)) : Calls Tryd.prog 29 #[.int .i64 n, .int .i64 12] w fun e w' => e = .returned (.bool false) ∧ w' = w := by
  rcases Int.lt_or_le n (-2048) with h0 | h0
  · clear h
    go_enter Tryd.func29, Tryd.ntmps29
    go_wp2
    go_ret
    exact ⟨rfl, rfl⟩
  · have h1 : 2048 ≤ n := by omega
    clear h
    go_enter Tryd.func29, Tryd.ntmps29
    go_wp2
    go_ret
    exact ⟨ret_bool (decide_eq_false (by omega)), rfl⟩

set_option maxHeartbeats 2000000 in
theorem checkR_yes (p : Pg) (w : World) (h : POk p) :
    Calls Tryd.prog 11 #[p.v] w fun e w' => e = .returned (.int .i64 0) ∧ Below w.heap.size w w' := by
  obtain ⟨a0, a1, a2, a3, a4, a5, a6, a7, x0, y0, z0, x1, y1, z1, x2, y2, z2⟩ := h
  have d0 : decide (p.prn < 1) = false := decide_eq_false (by omega)
  have d1 : decide (63 < p.prn) = false := decide_eq_false (by omega)
  have d2 : decide (p.t0 < 0) = false := decide_eq_false (by omega)
  have d3 : decide (604800 ≤ p.t0) = false := decide_eq_false (by omega)
  have d4 : decide (p.er < 0) = false := decide_eq_false (by omega)
  have d5 : decide (65535 < p.er) = false := decide_eq_false (by omega)
  have d6 : decide (p.gr < 0) = false := decide_eq_false (by omega)
  have d7 : decide (1048575 < p.gr) = false := decide_eq_false (by omega)
  clear a0 a1 a2 a3 a4 a5 a6 a7
  have X0 := Lib.hid x0
  have Y0 := Lib.hid y0
  have Z0 := Lib.hid z0
  have X1 := Lib.hid x1
  have Y1 := Lib.hid y1
  have Z1 := Lib.hid z1
  have X2 := Lib.hid x2
  have Y2 := Lib.hid y2
  have Z2 := Lib.hid z2
  clear x0 y0 z0 x1 y1 z1 x2 y2 z2
  go_enter Tryd.func11, Tryd.ntmps11
  go_wp2
  refine wp_loop_rounds 4 ?_
  rw [rounds_succ]
  go_wp2
  go_quiet ((go_at_call 29; first | exact Calls.quiet_of_same (within20_t _ _ X0.out) | exact Calls.quiet_of_same (within20_t _ _ Y0.out) | exact Calls.quiet_of_same (within20_t _ _ Z0.out)))
  go_wp2
  rw [rounds_succ]
  go_wp2
  go_quiet ((go_at_call 29; first | exact quiet_add_same (within14_t _ _ X1.out) | exact quiet_add_same (within14_t _ _ Y1.out) | exact quiet_add_same (within14_t _ _ Z1.out)))
  go_wp2
  rw [rounds_succ]
  go_wp2
  go_quiet ((go_at_call 29; first | exact quiet_add_same (within12_t _ _ X2.out) | exact quiet_add_same (within12_t _ _ Y2.out) | exact quiet_add_same (within12_t _ _ Z2.out)))
  go_wp2
  rw [rounds_succ]
  go_wp2
  go_ret
  exact ⟨rfl, by (repeat (first | exact Below.refl _ _ | refine below_drewN ?_ _ | refine Below.alloc ?_ (by first | exact Nat.le_refl _ | (simp; done) | (simp; omega)) _))⟩

set_option maxHeartbeats 4000000 in
theorem checkR_no1 (p : Pg) (w : World) (h : ¬ (1 ≤ p.prn ∧ p.prn ≤ 63 ∧ 0 ≤ p.t0 ∧ p.t0 < 604800 ∧ 0 ≤ p.er ∧ p.er ≤ 65535 ∧ 0 ≤ p.gr ∧ p.gr ≤ 1048575)) :
    Calls Tryd.prog 11 #[p.v] w fun e w' => e = .returned (.int .i64 2) ∧ Below w.heap.size w w' := by
  rcases Int.lt_or_le p.prn 1 with a0 | a0
  · clear h
    go_enter Tryd.func11, Tryd.ntmps11
    go_wp2
    go_ret
    exact ⟨rfl, by (repeat (first | exact Below.refl _ _ | refine below_drewN ?_ _ | refine Below.alloc ?_ (by first | exact Nat.le_refl _ | (simp; done) | (simp; omega)) _))⟩
  rcases Int.lt_or_le 63 p.prn with a1 | a1
  · clear h
    go_enter Tryd.func11, Tryd.ntmps11
    go_wp2
    go_ret
    exact ⟨rfl, by (repeat (first | exact Below.refl _ _ | refine below_drewN ?_ _ | refine Below.alloc ?_ (by first | exact Nat.le_refl _ | (simp; done) | (simp; omega)) _))⟩
  rcases Int.lt_or_le p.t0 0 with a2 | a2
  · clear h
    go_enter Tryd.func11, Tryd.ntmps11
    go_wp2
    go_ret
    exact ⟨rfl, by (repeat (first | exact Below.refl _ _ | refine below_drewN ?_ _ | refine Below.alloc ?_ (by first | exact Nat.le_refl _ | (simp; done) | (simp; omega)) _))⟩
  rcases Int.lt_or_le p.t0 604800 with a3 | a3
  rotate_left
  · clear h
    go_enter Tryd.func11, Tryd.ntmps11
    go_wp2
    go_ret
    exact ⟨rfl, by (repeat (first | exact Below.refl _ _ | refine below_drewN ?_ _ | refine Below.alloc ?_ (by first | exact Nat.le_refl _ | (simp; done) | (simp; omega)) _))⟩
  rcases Int.lt_or_le p.er 0 with a4 | a4
  · clear h
    go_enter Tryd.func11, Tryd.ntmps11
    go_wp2
    go_ret
    exact ⟨rfl, by (repeat (first | exact Below.refl _ _ | refine below_drewN ?_ _ | refine Below.alloc ?_ (by first | exact Nat.le_refl _ | (simp; done) | (simp; omega)) _))⟩
  rcases Int.lt_or_le 65535 p.er with a5 | a5
  · clear h
    go_enter Tryd.func11, Tryd.ntmps11
    go_wp2
    go_ret
    exact ⟨rfl, by (repeat (first | exact Below.refl _ _ | refine below_drewN ?_ _ | refine Below.alloc ?_ (by first | exact Nat.le_refl _ | (simp; done) | (simp; omega)) _))⟩
  rcases Int.lt_or_le p.gr 0 with a6 | a6
  · clear h
    go_enter Tryd.func11, Tryd.ntmps11
    go_wp2
    go_ret
    exact ⟨rfl, by (repeat (first | exact Below.refl _ _ | refine below_drewN ?_ _ | refine Below.alloc ?_ (by first | exact Nat.le_refl _ | (simp; done) | (simp; omega)) _))⟩
  rcases Int.lt_or_le 1048575 p.gr with a7 | a7
  · clear h
    go_enter Tryd.func11, Tryd.ntmps11
    go_wp2
    go_ret
    exact ⟨rfl, by (repeat (first | exact Below.refl _ _ | refine below_drewN ?_ _ | refine Below.alloc ?_ (by first | exact Nat.le_refl _ | (simp; done) | (simp; omega)) _))⟩
  exact absurd ⟨a0, a1, a2, a3, a4, a5, a6, a7⟩ h

set_option maxHeartbeats 2000000 in
theorem checkR_no_x0 (p : Pg) (w : World) (h : 1 ≤ p.prn ∧ p.prn ≤ 63 ∧ 0 ≤ p.t0 ∧ p.t0 < 604800 ∧ 0 ≤ p.er ∧ p.er ≤ 65535 ∧ 0 ≤ p.gr ∧ p.gr ≤ 1048575)
    (x0 : ¬ (-524288 ≤ p.x0 ∧ p.x0 ≤ 524287)) :
    Calls Tryd.prog 11 #[p.v] w fun e w' => e = .returned (.int .i64 2) ∧ Below w.heap.size w w' := by
  obtain ⟨a0, a1, a2, a3, a4, a5, a6, a7⟩ := h
  have d0 : decide (p.prn < 1) = false := decide_eq_false (by omega)
  have d1 : decide (63 < p.prn) = false := decide_eq_false (by omega)
  have d2 : decide (p.t0 < 0) = false := decide_eq_false (by omega)
  have d3 : decide (604800 ≤ p.t0) = false := decide_eq_false (by omega)
  have d4 : decide (p.er < 0) = false := decide_eq_false (by omega)
  have d5 : decide (65535 < p.er) = false := decide_eq_false (by omega)
  have d6 : decide (p.gr < 0) = false := decide_eq_false (by omega)
  have d7 : decide (1048575 < p.gr) = false := decide_eq_false (by omega)
  clear a0 a1 a2 a3 a4 a5 a6 a7
  have X0 := Lib.hid x0
  clear x0
  go_enter Tryd.func11, Tryd.ntmps11
  go_wp2
  refine wp_loop_rounds 4 ?_
  rw [rounds_succ]
  go_wp2
  go_quiet ((go_at_call 29; first | exact Calls.quiet_of_same (within20_f _ _ X0.out)))
  go_wp2
  go_ret
  exact ⟨rfl, by (repeat (first | exact Below.refl _ _ | refine below_drewN ?_ _ | refine Below.alloc ?_ (by first | exact Nat.le_refl _ | (simp; done) | (simp; omega)) _))⟩

set_option maxHeartbeats 2000000 in
theorem checkR_no_y0 (p : Pg) (w : World) (h : 1 ≤ p.prn ∧ p.prn ≤ 63 ∧ 0 ≤ p.t0 ∧ p.t0 < 604800 ∧ 0 ≤ p.er ∧ p.er ≤ 65535 ∧ 0 ≤ p.gr ∧ p.gr ≤ 1048575)
    (x0 : -524288 ≤ p.x0 ∧ p.x0 ≤ 524287) (y0 : ¬ (-524288 ≤ p.y0 ∧ p.y0 ≤ 524287)) :
    Calls Tryd.prog 11 #[p.v] w fun e w' => e = .returned (.int .i64 2) ∧ Below w.heap.size w w' := by
  obtain ⟨a0, a1, a2, a3, a4, a5, a6, a7⟩ := h
  have d0 : decide (p.prn < 1) = false := decide_eq_false (by omega)
  have d1 : decide (63 < p.prn) = false := decide_eq_false (by omega)
  have d2 : decide (p.t0 < 0) = false := decide_eq_false (by omega)
  have d3 : decide (604800 ≤ p.t0) = false := decide_eq_false (by omega)
  have d4 : decide (p.er < 0) = false := decide_eq_false (by omega)
  have d5 : decide (65535 < p.er) = false := decide_eq_false (by omega)
  have d6 : decide (p.gr < 0) = false := decide_eq_false (by omega)
  have d7 : decide (1048575 < p.gr) = false := decide_eq_false (by omega)
  clear a0 a1 a2 a3 a4 a5 a6 a7
  have X0 := Lib.hid x0
  have Y0 := Lib.hid y0
  clear x0 y0
  go_enter Tryd.func11, Tryd.ntmps11
  go_wp2
  refine wp_loop_rounds 4 ?_
  rw [rounds_succ]
  go_wp2
  go_quiet ((go_at_call 29; first | exact Calls.quiet_of_same (within20_t _ _ X0.out) | exact Calls.quiet_of_same (within20_f _ _ Y0.out)))
  go_wp2
  go_ret
  exact ⟨rfl, by (repeat (first | exact Below.refl _ _ | refine below_drewN ?_ _ | refine Below.alloc ?_ (by first | exact Nat.le_refl _ | (simp; done) | (simp; omega)) _))⟩

set_option maxHeartbeats 2000000 in
theorem checkR_no_z0 (p : Pg) (w : World) (h : 1 ≤ p.prn ∧ p.prn ≤ 63 ∧ 0 ≤ p.t0 ∧ p.t0 < 604800 ∧ 0 ≤ p.er ∧ p.er ≤ 65535 ∧ 0 ≤ p.gr ∧ p.gr ≤ 1048575)
    (x0 : -524288 ≤ p.x0 ∧ p.x0 ≤ 524287) (y0 : -524288 ≤ p.y0 ∧ p.y0 ≤ 524287) (z0 : ¬ (-524288 ≤ p.z0 ∧ p.z0 ≤ 524287)) :
    Calls Tryd.prog 11 #[p.v] w fun e w' => e = .returned (.int .i64 2) ∧ Below w.heap.size w w' := by
  obtain ⟨a0, a1, a2, a3, a4, a5, a6, a7⟩ := h
  have d0 : decide (p.prn < 1) = false := decide_eq_false (by omega)
  have d1 : decide (63 < p.prn) = false := decide_eq_false (by omega)
  have d2 : decide (p.t0 < 0) = false := decide_eq_false (by omega)
  have d3 : decide (604800 ≤ p.t0) = false := decide_eq_false (by omega)
  have d4 : decide (p.er < 0) = false := decide_eq_false (by omega)
  have d5 : decide (65535 < p.er) = false := decide_eq_false (by omega)
  have d6 : decide (p.gr < 0) = false := decide_eq_false (by omega)
  have d7 : decide (1048575 < p.gr) = false := decide_eq_false (by omega)
  clear a0 a1 a2 a3 a4 a5 a6 a7
  have X0 := Lib.hid x0
  have Y0 := Lib.hid y0
  have Z0 := Lib.hid z0
  clear x0 y0 z0
  go_enter Tryd.func11, Tryd.ntmps11
  go_wp2
  refine wp_loop_rounds 4 ?_
  rw [rounds_succ]
  go_wp2
  go_quiet ((go_at_call 29; first | exact Calls.quiet_of_same (within20_t _ _ X0.out) | exact Calls.quiet_of_same (within20_t _ _ Y0.out) | exact Calls.quiet_of_same (within20_f _ _ Z0.out)))
  go_wp2
  go_ret
  exact ⟨rfl, by (repeat (first | exact Below.refl _ _ | refine below_drewN ?_ _ | refine Below.alloc ?_ (by first | exact Nat.le_refl _ | (simp; done) | (simp; omega)) _))⟩

set_option maxHeartbeats 2000000 in
theorem checkR_no_x1 (p : Pg) (w : World) (h : 1 ≤ p.prn ∧ p.prn ≤ 63 ∧ 0 ≤ p.t0 ∧ p.t0 < 604800 ∧ 0 ≤ p.er ∧ p.er ≤ 65535 ∧ 0 ≤ p.gr ∧ p.gr ≤ 1048575)
    (x0 : -524288 ≤ p.x0 ∧ p.x0 ≤ 524287) (y0 : -524288 ≤ p.y0 ∧ p.y0 ≤ 524287) (z0 : -524288 ≤ p.z0 ∧ p.z0 ≤ 524287) (x1 : ¬ (-8192 ≤ p.x1 ∧ p.x1 ≤ 8191)) :
    Calls Tryd.prog 11 #[p.v] w fun e w' => e = .returned (.int .i64 2) ∧ Below w.heap.size w w' := by
  obtain ⟨a0, a1, a2, a3, a4, a5, a6, a7⟩ := h
  have d0 : decide (p.prn < 1) = false := decide_eq_false (by omega)
  have d1 : decide (63 < p.prn) = false := decide_eq_false (by omega)
  have d2 : decide (p.t0 < 0) = false := decide_eq_false (by omega)
  have d3 : decide (604800 ≤ p.t0) = false := decide_eq_false (by omega)
  have d4 : decide (p.er < 0) = false := decide_eq_false (by omega)
  have d5 : decide (65535 < p.er) = false := decide_eq_false (by omega)
  have d6 : decide (p.gr < 0) = false := decide_eq_false (by omega)
  have d7 : decide (1048575 < p.gr) = false := decide_eq_false (by omega)
  clear a0 a1 a2 a3 a4 a5 a6 a7
  have X0 := Lib.hid x0
  have Y0 := Lib.hid y0
  have Z0 := Lib.hid z0
  have X1 := Lib.hid x1
  clear x0 y0 z0 x1
  go_enter Tryd.func11, Tryd.ntmps11
  go_wp2
  refine wp_loop_rounds 4 ?_
  rw [rounds_succ]
  go_wp2
  go_quiet ((go_at_call 29; first | exact Calls.quiet_of_same (within20_t _ _ X0.out) | exact Calls.quiet_of_same (within20_t _ _ Y0.out) | exact Calls.quiet_of_same (within20_t _ _ Z0.out)))
  go_wp2
  rw [rounds_succ]
  go_wp2
  go_quiet ((go_at_call 29; first | exact quiet_add_same (within14_f _ _ X1.out)))
  go_wp2
  go_ret
  exact ⟨rfl, by (repeat (first | exact Below.refl _ _ | refine below_drewN ?_ _ | refine Below.alloc ?_ (by first | exact Nat.le_refl _ | (simp; done) | (simp; omega)) _))⟩

set_option maxHeartbeats 2000000 in
theorem checkR_no_y1 (p : Pg) (w : World) (h : 1 ≤ p.prn ∧ p.prn ≤ 63 ∧ 0 ≤ p.t0 ∧ p.t0 < 604800 ∧ 0 ≤ p.er ∧ p.er ≤ 65535 ∧ 0 ≤ p.gr ∧ p.gr ≤ 1048575)
    (x0 : -524288 ≤ p.x0 ∧ p.x0 ≤ 524287) (y0 : -524288 ≤ p.y0 ∧ p.y0 ≤ 524287) (z0 : -524288 ≤ p.z0 ∧ p.z0 ≤ 524287) (x1 : -8192 ≤ p.x1 ∧ p.x1 ≤ 8191) (y1 : ¬ (-8192 ≤ p.y1 ∧ p.y1 ≤ 8191)) :
    Calls Tryd.prog 11 #[p.v] w fun e w' => e = .returned (.int .i64 2) ∧ Below w.heap.size w w' := by
  obtain ⟨a0, a1, a2, a3, a4, a5, a6, a7⟩ := h
  have d0 : decide (p.prn < 1) = false := decide_eq_false (by omega)
  have d1 : decide (63 < p.prn) = false := decide_eq_false (by omega)
  have d2 : decide (p.t0 < 0) = false := decide_eq_false (by omega)
  have d3 : decide (604800 ≤ p.t0) = false := decide_eq_false (by omega)
  have d4 : decide (p.er < 0) = false := decide_eq_false (by omega)
  have d5 : decide (65535 < p.er) = false := decide_eq_false (by omega)
  have d6 : decide (p.gr < 0) = false := decide_eq_false (by omega)
  have d7 : decide (1048575 < p.gr) = false := decide_eq_false (by omega)
  clear a0 a1 a2 a3 a4 a5 a6 a7
  have X0 := Lib.hid x0
  have Y0 := Lib.hid y0
  have Z0 := Lib.hid z0
  have X1 := Lib.hid x1
  have Y1 := Lib.hid y1
  clear x0 y0 z0 x1 y1
  go_enter Tryd.func11, Tryd.ntmps11
  go_wp2
  refine wp_loop_rounds 4 ?_
  rw [rounds_succ]
  go_wp2
  go_quiet ((go_at_call 29; first | exact Calls.quiet_of_same (within20_t _ _ X0.out) | exact Calls.quiet_of_same (within20_t _ _ Y0.out) | exact Calls.quiet_of_same (within20_t _ _ Z0.out)))
  go_wp2
  rw [rounds_succ]
  go_wp2
  go_quiet ((go_at_call 29; first | exact quiet_add_same (within14_t _ _ X1.out) | exact quiet_add_same (within14_f _ _ Y1.out)))
  go_wp2
  go_ret
  exact ⟨rfl, by (repeat (first | exact Below.refl _ _ | refine below_drewN ?_ _ | refine Below.alloc ?_ (by first | exact Nat.le_refl _ | (simp; done) | (simp; omega)) _))⟩

set_option maxHeartbeats 2000000 in
theorem checkR_no_z1 (p : Pg) (w : World) (h : 1 ≤ p.prn ∧ p.prn ≤ 63 ∧ 0 ≤ p.t0 ∧ p.t0 < 604800 ∧ 0 ≤ p.er ∧ p.er ≤ 65535 ∧ 0 ≤ p.gr ∧ p.gr ≤ 1048575)
    (x0 : -524288 ≤ p.x0 ∧ p.x0 ≤ 524287) (y0 : -524288 ≤ p.y0 ∧ p.y0 ≤ 524287) (z0 : -524288 ≤ p.z0 ∧ p.z0 ≤ 524287) (x1 : -8192 ≤ p.x1 ∧ p.x1 ≤ 8191) (y1 : -8192 ≤ p.y1 ∧ p.y1 ≤ 8191) (z1 : ¬ (-8192 ≤ p.z1 ∧ p.z1 ≤ 8191)) :
    Calls Tryd.prog 11 #[p.v] w fun e w' => e = .returned (.int .i64 2) ∧ Below w.heap.size w w' := by
  obtain ⟨a0, a1, a2, a3, a4, a5, a6, a7⟩ := h
  have d0 : decide (p.prn < 1) = false := decide_eq_false (by omega)
  have d1 : decide (63 < p.prn) = false := decide_eq_false (by omega)
  have d2 : decide (p.t0 < 0) = false := decide_eq_false (by omega)
  have d3 : decide (604800 ≤ p.t0) = false := decide_eq_false (by omega)
  have d4 : decide (p.er < 0) = false := decide_eq_false (by omega)
  have d5 : decide (65535 < p.er) = false := decide_eq_false (by omega)
  have d6 : decide (p.gr < 0) = false := decide_eq_false (by omega)
  have d7 : decide (1048575 < p.gr) = false := decide_eq_false (by omega)
  clear a0 a1 a2 a3 a4 a5 a6 a7
  have X0 := Lib.hid x0
  have Y0 := Lib.hid y0
  have Z0 := Lib.hid z0
  have X1 := Lib.hid x1
  have Y1 := Lib.hid y1
  have Z1 := Lib.hid z1
  clear x0 y0 z0 x1 y1 z1
  go_enter Tryd.func11, Tryd.ntmps11
  go_wp2
  refine wp_loop_rounds 4 ?_
  rw [rounds_succ]
  go_wp2
  go_quiet ((go_at_call 29; first | exact Calls.quiet_of_same (within20_t _ _ X0.out) | exact Calls.quiet_of_same (within20_t _ _ Y0.out) | exact Calls.quiet_of_same (within20_t _ _ Z0.out)))
  go_wp2
  rw [rounds_succ]
  go_wp2
  go_quiet ((go_at_call 29; first | exact quiet_add_same (within14_t _ _ X1.out) | exact quiet_add_same (within14_t _ _ Y1.out) | exact quiet_add_same (within14_f _ _ Z1.out)))
  go_wp2
  go_ret
  exact ⟨rfl, by (repeat (first | exact Below.refl _ _ | refine below_drewN ?_ _ | refine Below.alloc ?_ (by first | exact Nat.le_refl _ | (simp; done) | (simp; omega)) _))⟩

set_option maxHeartbeats 2000000 in
theorem checkR_no_x2 (p : Pg) (w : World) (h : 1 ≤ p.prn ∧ p.prn ≤ 63 ∧ 0 ≤ p.t0 ∧ p.t0 < 604800 ∧ 0 ≤ p.er ∧ p.er ≤ 65535 ∧ 0 ≤ p.gr ∧ p.gr ≤ 1048575)
    (x0 : -524288 ≤ p.x0 ∧ p.x0 ≤ 524287) (y0 : -524288 ≤ p.y0 ∧ p.y0 ≤ 524287) (z0 : -524288 ≤ p.z0 ∧ p.z0 ≤ 524287) (x1 : -8192 ≤ p.x1 ∧ p.x1 ≤ 8191) (y1 : -8192 ≤ p.y1 ∧ p.y1 ≤ 8191) (z1 : -8192 ≤ p.z1 ∧ p.z1 ≤ 8191) (x2 : ¬ (-2048 ≤ p.x2 ∧ p.x2 ≤ 2047)) :
    Calls Tryd.prog 11 #[p.v] w fun e w' => e = .returned (.int .i64 2) ∧ Below w.heap.size w w' := by
  obtain ⟨a0, a1, a2, a3, a4, a5, a6, a7⟩ := h
  have d0 : decide (p.prn < 1) = false := decide_eq_false (by omega)
  have d1 : decide (63 < p.prn) = false := decide_eq_false (by omega)
  have d2 : decide (p.t0 < 0) = false := decide_eq_false (by omega)
  have d3 : decide (604800 ≤ p.t0) = false := decide_eq_false (by omega)
  have d4 : decide (p.er < 0) = false := decide_eq_false (by omega)
  have d5 : decide (65535 < p.er) = false := decide_eq_false (by omega)
  have d6 : decide (p.gr < 0) = false := decide_eq_false (by omega)
  have d7 : decide (1048575 < p.gr) = false := decide_eq_false (by omega)
  clear a0 a1 a2 a3 a4 a5 a6 a7
  have X0 := Lib.hid x0
  have Y0 := Lib.hid y0
  have Z0 := Lib.hid z0
  have X1 := Lib.hid x1
  have Y1 := Lib.hid y1
  have Z1 := Lib.hid z1
  have X2 := Lib.hid x2
  clear x0 y0 z0 x1 y1 z1 x2
  go_enter Tryd.func11, Tryd.ntmps11
  go_wp2
  refine wp_loop_rounds 4 ?_
  rw [rounds_succ]
  go_wp2
  go_quiet ((go_at_call 29; first | exact Calls.quiet_of_same (within20_t _ _ X0.out) | exact Calls.quiet_of_same (within20_t _ _ Y0.out) | exact Calls.quiet_of_same (within20_t _ _ Z0.out)))
  go_wp2
  rw [rounds_succ]
  go_wp2
  go_quiet ((go_at_call 29; first | exact quiet_add_same (within14_t _ _ X1.out) | exact quiet_add_same (within14_t _ _ Y1.out) | exact quiet_add_same (within14_t _ _ Z1.out)))
  go_wp2
  rw [rounds_succ]
  go_wp2
  go_quiet ((go_at_call 29; first | exact quiet_add_same (within12_f _ _ X2.out)))
  go_wp2
  go_ret
  exact ⟨rfl, by (repeat (first | exact Below.refl _ _ | refine below_drewN ?_ _ | refine Below.alloc ?_ (by first | exact Nat.le_refl _ | (simp; done) | (simp; omega)) _))⟩

set_option maxHeartbeats 2000000 in
theorem checkR_no_y2 (p : Pg) (w : World) (h : 1 ≤ p.prn ∧ p.prn ≤ 63 ∧ 0 ≤ p.t0 ∧ p.t0 < 604800 ∧ 0 ≤ p.er ∧ p.er ≤ 65535 ∧ 0 ≤ p.gr ∧ p.gr ≤ 1048575)
    (x0 : -524288 ≤ p.x0 ∧ p.x0 ≤ 524287) (y0 : -524288 ≤ p.y0 ∧ p.y0 ≤ 524287) (z0 : -524288 ≤ p.z0 ∧ p.z0 ≤ 524287) (x1 : -8192 ≤ p.x1 ∧ p.x1 ≤ 8191) (y1 : -8192 ≤ p.y1 ∧ p.y1 ≤ 8191) (z1 : -8192 ≤ p.z1 ∧ p.z1 ≤ 8191) (x2 : -2048 ≤ p.x2 ∧ p.x2 ≤ 2047) (y2 : ¬ (-2048 ≤ p.y2 ∧ p.y2 ≤ 2047)) :
    Calls Tryd.prog 11 #[p.v] w fun e w' => e = .returned (.int .i64 2) ∧ Below w.heap.size w w' := by
  obtain ⟨a0, a1, a2, a3, a4, a5, a6, a7⟩ := h
  have d0 : decide (p.prn < 1) = false := decide_eq_false (by omega)
  have d1 : decide (63 < p.prn) = false := decide_eq_false (by omega)
  have d2 : decide (p.t0 < 0) = false := decide_eq_false (by omega)
  have d3 : decide (604800 ≤ p.t0) = false := decide_eq_false (by omega)
  have d4 : decide (p.er < 0) = false := decide_eq_false (by omega)
  have d5 : decide (65535 < p.er) = false := decide_eq_false (by omega)
  have d6 : decide (p.gr < 0) = false := decide_eq_false (by omega)
  have d7 : decide (1048575 < p.gr) = false := decide_eq_false (by omega)
  clear a0 a1 a2 a3 a4 a5 a6 a7
  have X0 := Lib.hid x0
  have Y0 := Lib.hid y0
  have Z0 := Lib.hid z0
  have X1 := Lib.hid x1
  have Y1 := Lib.hid y1
  have Z1 := Lib.hid z1
  have X2 := Lib.hid x2
  have Y2 := Lib.hid y2
  clear x0 y0 z0 x1 y1 z1 x2 y2
  go_enter Tryd.func11, Tryd.ntmps11
  go_wp2
  refine wp_loop_rounds 4 ?_
  rw [rounds_succ]
  go_wp2
  go_quiet ((go_at_call 29; first | exact Calls.quiet_of_same (within20_t _ _ X0.out) | exact Calls.quiet_of_same (within20_t _ _ Y0.out) | exact Calls.quiet_of_same (within20_t _ _ Z0.out)))
  go_wp2
  rw [rounds_succ]
  go_wp2
  go_quiet ((go_at_call 29; first | exact quiet_add_same (within14_t _ _ X1.out) | exact quiet_add_same (within14_t _ _ Y1.out) | exact quiet_add_same (within14_t _ _ Z1.out)))
  go_wp2
  rw [rounds_succ]
  go_wp2
  go_quiet ((go_at_call 29; first | exact quiet_add_same (within12_t _ _ X2.out) | exact quiet_add_same (within12_f _ _ Y2.out)))
  go_wp2
  go_ret
  exact ⟨rfl, by (repeat (first | exact Below.refl _ _ | refine below_drewN ?_ _ | refine Below.alloc ?_ (by first | exact Nat.le_refl _ | (simp; done) | (simp; omega)) _))⟩

set_option maxHeartbeats 2000000 in
theorem checkR_no_z2 (p : Pg) (w : World) (h : 1 ≤ p.prn ∧ p.prn ≤ 63 ∧ 0 ≤ p.t0 ∧ p.t0 < 604800 ∧ 0 ≤ p.er ∧ p.er ≤ 65535 ∧ 0 ≤ p.gr ∧ p.gr ≤ 1048575)
    (x0 : -524288 ≤ p.x0 ∧ p.x0 ≤ 524287) (y0 : -524288 ≤ p.y0 ∧ p.y0 ≤ 524287) (z0 : -524288 ≤ p.z0 ∧ p.z0 ≤ 524287) (x1 : -8192 ≤ p.x1 ∧ p.x1 ≤ 8191) (y1 : -8192 ≤ p.y1 ∧ p.y1 ≤ 8191) (z1 : -8192 ≤ p.z1 ∧ p.z1 ≤ 8191) (x2 : -2048 ≤ p.x2 ∧ p.x2 ≤ 2047) (y2 : -2048 ≤ p.y2 ∧ p.y2 ≤ 2047) (z2 : ¬ (-2048 ≤ p.z2 ∧ p.z2 ≤ 2047)) :
    Calls Tryd.prog 11 #[p.v] w fun e w' => e = .returned (.int .i64 2) ∧ Below w.heap.size w w' := by
  obtain ⟨a0, a1, a2, a3, a4, a5, a6, a7⟩ := h
  have d0 : decide (p.prn < 1) = false := decide_eq_false (by omega)
  have d1 : decide (63 < p.prn) = false := decide_eq_false (by omega)
  have d2 : decide (p.t0 < 0) = false := decide_eq_false (by omega)
  have d3 : decide (604800 ≤ p.t0) = false := decide_eq_false (by omega)
  have d4 : decide (p.er < 0) = false := decide_eq_false (by omega)
  have d5 : decide (65535 < p.er) = false := decide_eq_false (by omega)
  have d6 : decide (p.gr < 0) = false := decide_eq_false (by omega)
  have d7 : decide (1048575 < p.gr) = false := decide_eq_false (by omega)
  clear a0 a1 a2 a3 a4 a5 a6 a7
  have X0 := Lib.hid x0
  have Y0 := Lib.hid y0
  have Z0 := Lib.hid z0
  have X1 := Lib.hid x1
  have Y1 := Lib.hid y1
  have Z1 := Lib.hid z1
  have X2 := Lib.hid x2
  have Y2 := Lib.hid y2
  have Z2 := Lib.hid z2
  clear x0 y0 z0 x1 y1 z1 x2 y2 z2
  go_enter Tryd.func11, Tryd.ntmps11
  go_wp2
  refine wp_loop_rounds 4 ?_
  rw [rounds_succ]
  go_wp2
  go_quiet ((go_at_call 29; first | exact Calls.quiet_of_same (within20_t _ _ X0.out) | exact Calls.quiet_of_same (within20_t _ _ Y0.out) | exact Calls.quiet_of_same (within20_t _ _ Z0.out)))
  go_wp2
  rw [rounds_succ]
  go_wp2
  go_quiet ((go_at_call 29; first | exact quiet_add_same (within14_t _ _ X1.out) | exact quiet_add_same (within14_t _ _ Y1.out) | exact quiet_add_same (within14_t _ _ Z1.out)))
  go_wp2
  rw [rounds_succ]
  go_wp2
  go_quiet ((go_at_call 29; first | exact quiet_add_same (within12_t _ _ X2.out) | exact quiet_add_same (within12_t _ _ Y2.out) | exact quiet_add_same (within12_f _ _ Z2.out)))
  go_wp2
  go_ret
  exact ⟨rfl, by (repeat (first | exact Below.refl _ _ | refine below_drewN ?_ _ | refine Below.alloc ?_ (by first | exact Nat.le_refl _ | (simp; done) | (simp; omega)) _))⟩

theorem checkR_no (p : Pg) (w : World) (h : ¬ POk p) :
    Calls Tryd.prog 11 #[p.v] w fun e w' => e = .returned (.int .i64 2) ∧ Below w.heap.size w w' := by
  by_cases h1 : 1 ≤ p.prn ∧ p.prn ≤ 63 ∧ 0 ≤ p.t0 ∧ p.t0 < 604800 ∧ 0 ≤ p.er ∧ p.er ≤ 65535 ∧ 0 ≤ p.gr ∧ p.gr ≤ 1048575
  rotate_left
  · exact checkR_no1 p w h1
  by_cases x0 : -524288 ≤ p.x0 ∧ p.x0 ≤ 524287
  rotate_left
  · exact checkR_no_x0 p w h1 x0
  by_cases y0 : -524288 ≤ p.y0 ∧ p.y0 ≤ 524287
  rotate_left
  · exact checkR_no_y0 p w h1 x0 y0
  by_cases z0 : -524288 ≤ p.z0 ∧ p.z0 ≤ 524287
  rotate_left
  · exact checkR_no_z0 p w h1 x0 y0 z0
  by_cases x1 : -8192 ≤ p.x1 ∧ p.x1 ≤ 8191
  rotate_left
  · exact checkR_no_x1 p w h1 x0 y0 z0 x1
  by_cases y1 : -8192 ≤ p.y1 ∧ p.y1 ≤ 8191
  rotate_left
  · exact checkR_no_y1 p w h1 x0 y0 z0 x1 y1
  by_cases z1 : -8192 ≤ p.z1 ∧ p.z1 ≤ 8191
  rotate_left
  · exact checkR_no_z1 p w h1 x0 y0 z0 x1 y1 z1
  by_cases x2 : -2048 ≤ p.x2 ∧ p.x2 ≤ 2047
  rotate_left
  · exact checkR_no_x2 p w h1 x0 y0 z0 x1 y1 z1 x2
  by_cases y2 : -2048 ≤ p.y2 ∧ p.y2 ≤ 2047
  rotate_left
  · exact checkR_no_y2 p w h1 x0 y0 z0 x1 y1 z1 x2 y2
  by_cases z2 : -2048 ≤ p.z2 ∧ p.z2 ≤ 2047
  rotate_left
  · exact checkR_no_z2 p w h1 x0 y0 z0 x1 y1 z1 x2 y2 z2
  obtain ⟨a0, a1, a2, a3, a4, a5, a6, a7⟩ := h1
  exact absurd ⟨a0, a1, a2, (by omega), a4, a5, a6, a7, x0, y0, z0, x1, y1, z1, x2, y2, z2⟩ h
end Go.Proofs.YtphdphipnbclcaaDoor
