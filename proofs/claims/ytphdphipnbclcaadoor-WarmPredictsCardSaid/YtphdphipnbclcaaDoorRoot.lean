/- Both square roots, the program's by Newton's iteration and the reference's by halving, return the integer part of the square root: the one whole number r with r*r at most n and n below (r+1)*(r+1). -/
import Derived.Test.YtphdphipnbclcaaDoorLeafA
namespace Go.Proofs.YtphdphipnbclcaaDoor
open Go.RowKit

/-- r is the integer part of the square root of n. -/
structure IsRoot (n r : Int) : Prop where
  nonneg : 0 ≤ r
  low : r * r ≤ n
  high : n < (r + 1) * (r + 1)

theorem sq_nonneg (a : Int) : 0 ≤ a * a := by
  rcases Int.le_total 0 a with h | h
  · exact Int.mul_nonneg h h
  · exact Int.mul_nonneg_of_nonpos_of_nonpos h h

theorem mul_mono {a b c d : Int} (h1 : a ≤ b) (h2 : c ≤ d) (h0 : 0 ≤ c) (h3 : 0 ≤ b) : a * c ≤ b * d :=
  Int.le_trans (Int.mul_le_mul_of_nonneg_right h1 h0) (Int.mul_le_mul_of_nonneg_left h2 h3)

/-- x*x at most n is x at most r. -/
theorem IsRoot.le_iff {n r : Int} (h : IsRoot n r) {x : Int} (hx : 0 ≤ x) : x * x ≤ n ↔ x ≤ r := by
  constructor
  · intro hm
    rcases Int.lt_or_le r x with hl | hl
    · have := mul_mono (a := r + 1) (b := x) (c := r + 1) (d := x) (by omega) (by omega) (by have := h.nonneg; omega) hx
      have := h.high
      omega
    · exact hl
  · intro hl
    have := mul_mono hl hl hx h.nonneg
    have := h.low
    omega

theorem exists_root (n : Nat) : ∃ r : Int, IsRoot n r := by
  induction n with
  | zero => exact ⟨0, by omega, by simp, by simp⟩
  | succ n ih =>
    obtain ⟨r, h⟩ := ih
    by_cases hc : (r + 1) * (r + 1) ≤ ((n + 1 : Nat) : Int)
    · refine ⟨r + 1, by have := h.nonneg; omega, hc, ?_⟩
      have h1 := h.high
      have h2 : (r + 1 + 1) * (r + 1 + 1) = (r + 1) * (r + 1) + 2 * r + 3 := by grind
      have := h.nonneg
      omega
    · exact ⟨r, h.nonneg, by have := h.low; omega, by omega⟩

/-- One step of Newton never falls below the root. -/
theorem newton_ge {n r x : Int} (h : IsRoot n r) (hx : 1 ≤ x) : r ≤ (x + n / x) / 2 := by
  rcases Int.lt_or_le ((x + n / x) / 2) r with hl | hl
  · exfalso
    have hq : n < (n / x + 1) * x := by
      have e := Int.mul_ediv_add_emod n x
      have l := Int.emod_lt_of_pos n (show 0 < x by omega)
      have : (n / x + 1) * x = x * (n / x) + x := by grind
      omega
    have h1 : n / x + 1 ≤ 2 * r - x := by omega
    have h2 : (n / x + 1) * x ≤ (2 * r - x) * x := Int.mul_le_mul_of_nonneg_right h1 (by omega)
    have h3 : (2 * r - x) * x = r * r - (r - x) * (r - x) := by grind
    have h4 := sq_nonneg (r - x)
    have := h.low
    omega
  · exact hl

/-- Where a step does not go down the root is reached. -/
theorem newton_stop {n r x : Int} (h : IsRoot n r) (hx : 1 ≤ x) (hr : r ≤ x) (hs : x ≤ (x + n / x) / 2) : x = r := by
  have h1 : x ≤ n / x := by omega
  have h2 : x * x ≤ n := by
    have e := Int.mul_ediv_add_emod n x
    have l := Int.emod_nonneg n (show x ≠ 0 by omega)
    have : x * x ≤ x * (n / x) := Int.mul_le_mul_of_nonneg_left h1 (by omega)
    omega
  have := (h.le_iff (by omega)).1 h2
  omega

theorem IsRoot.pos {n r : Int} (h : IsRoot n r) (hn : 1 ≤ n) : 1 ≤ r := (h.le_iff (x := 1) (by omega)).1 (by omega)
theorem IsRoot.lt {n r : Int} (h : IsRoot n r) (B : Int) (hB : 0 ≤ B) (hn : n < B * B) : r < B := by
  rcases Int.lt_or_le r B with hl | hl
  · exact hl
  · have := (h.le_iff hB).2 hl
    omega
theorem IsRoot.unique {n r s : Int} (h : IsRoot n r) (k : IsRoot n s) : r = s := by
  have h1 := (h.le_iff k.nonneg).1 k.low
  have h2 := (k.le_iff h.nonneg).1 h.low
  omega

set_option maxHeartbeats 400000 in
theorem newton_any (n r : Int) (w : World) (hr : IsRoot n r) (h0 : 0 ≤ n) (h1 : n ≤ 4611686018427387904) :
    Calls Tryd.prog 27 #[.int .i64 n] w fun e w' => e = .returned (.int .i64 r) ∧ w = w' := by
  by_cases h2 : n < 2
  · have e : r = n := by
      have hl := hr.low
      have hh := hr.high
      have hp := hr.nonneg
      have h3 := hr.lt 2 (by omega) (by omega)
      rcases (show r = 0 ∨ r = 1 by omega) with rfl | rfl <;> omega
    subst e
    go_enter Tryd.func27, Tryd.ntmps27
    go_wp2
    go_ret
    exact ⟨rfl, rfl⟩
  · have hb : r ≤ 4294967296 := by
      have := hr.lt 4294967297 (by omega) (by omega)
      omega
    have hp : 1 ≤ r := hr.pos (by omega)
    have H := Lib.hid hr
    clear hr
    go_enter Tryd.func27, Tryd.ntmps27
    go_wp2
    go_loop [3] (fun v => ∃ x : Int, r ≤ x ∧ x ≤ 4294967296 ∧ v = .int .i64 x) (fun v => (intOf v).toNat)
    case atStart => exact ⟨4294967296, hb, by omega, rfl⟩
    case round =>
      obtain ⟨x, hx0, hx1, rfl⟩ := hrel
      have q0 : 0 ≤ n / x := Int.ediv_nonneg h0 (by omega)
      have q1 : n / x ≤ n := Int.ediv_le_self _ h0
      have hge := newton_ge H.out (x := x) (by omega)
      by_cases hlt : (x + n / x) / 2 < x
      · go_wp2
        go_round
        case rel => exact ⟨_, hge, by omega, rfl⟩
        case measure => simp [intOf]; omega
      · have hst := Lib.hid (newton_stop H.out (x := x) (by omega) hx0 (by omega))
        go_wp2
        go_ret
        exact ⟨ret_int hst.out, rfl⟩

set_option maxHeartbeats 400000 in
theorem bisect_any (n r : Int) (w : World) (hr : IsRoot n r) (h0 : 0 ≤ n) (h1 : n ≤ 4611686018427387904) :
    Calls Tryd.prog 16 #[.int .i64 n] w fun e w' => e = .returned (.int .i64 r) ∧ w = w' := by
  have hb : r ≤ 3000000000 := by
    have := hr.lt 3000000001 (by omega) (by omega)
    omega
  have hp := hr.nonneg
  have H := Lib.hid hr
  clear hr
  go_enter Tryd.func16, Tryd.ntmps16
  go_wp2
  go_loop [3, 4] (fun u v => ∃ x y : Int, 0 ≤ x ∧ x ≤ r ∧ r ≤ y ∧ y ≤ 3000000000 ∧ u = .int .i64 x ∧ v = .int .i64 y) (fun u v => (intOf v - intOf u).toNat)
  case atStart => exact ⟨0, 3000000000, by omega, hp, hb, by omega, rfl, rfl⟩
  case round =>
    obtain ⟨x, y, hx0, hx1, hy0, hy1, rfl, rfl⟩ := hrel
    by_cases hlt : x < y
    · have m0 : 0 ≤ (x + y + 1) / 2 * ((x + y + 1) / 2) := sq_nonneg _
      have m1 : (x + y + 1) / 2 * ((x + y + 1) / 2) ≤ 9000000000000000000 := mul_mono (b := 3000000000) (d := 3000000000) (by omega) (by omega) (by omega) (by omega)
      have hle := Lib.hid (H.out.le_iff (x := (x + y + 1) / 2) (by omega))
      by_cases hc : (x + y + 1) / 2 * ((x + y + 1) / 2) ≤ n
      · have hm := hle.out.1 hc
        go_wp2
        go_round
        case rel => exact ⟨_, y, by omega, hm, hy0, hy1, rfl, rfl⟩
        case measure => simp [intOf]; omega
      · have hm : ¬ (x + y + 1) / 2 ≤ r := fun h => hc (hle.out.2 h)
        go_wp2
        go_round
        case rel => exact ⟨x, _, hx0, hx1, by omega, by omega, rfl, rfl⟩
        case measure => simp [intOf]; omega
    · have e : x = r := by omega
      have E := Lib.hid e
      clear e
      go_wp2
      go_ret
      exact ⟨ret_int E.out, rfl⟩
end Go.Proofs.YtphdphipnbclcaaDoor
