/- The reference's two checks of a question's numbers: whether a number has so many bits, and whether a question is right. -/
import Derived.Test.YtphdphipnbclcaaDoorLeafB
namespace Go.Proofs.YtphdphipnbclcaaDoor
open Go.RowKit

/-- A question's numbers are in range. -/
structure QOk (ux uy uz radius t late clock samples : Int) : Prop where
  x0 : -100000000 ≤ ux
  x1 : ux ≤ 100000000
  y0 : -100000000 ≤ uy
  y1 : uy ≤ 100000000
  z0 : -100000000 ≤ uz
  z1 : uz ≤ 100000000
  r0 : 0 ≤ radius
  r1 : radius ≤ 10000000
  t0 : 0 ≤ t
  t1 : t ≤ 604799
  l0 : 0 ≤ late
  l1 : late ≤ 600
  c0 : 0 ≤ clock
  c1 : clock ≤ 1000000000
  s0 : 1 ≤ samples
  s1 : samples ≤ 8192

set_option maxHeartbeats 400000 in
theorem right_yes (ux uy uz radius t late clock samples : Int) (w : World) (h : QOk ux uy uz radius t late clock samples) :
    Calls Tryd.prog 12 #[arr3 ux uy uz, .int .i64 radius, .int .i64 t, .int .i64 late, .int .i64 clock, .int .i64 samples] w fun e w' => e = .returned (.int .i64 0) ∧ Below w.heap.size w w' := by
  obtain ⟨x0, x1, y0, y1, z0, z1, r0, r1, t0, t1, l0, l1, c0, c1, s0, s1⟩ := h
  go_enter Tryd.func12, Tryd.ntmps12
  go_wp2
  go_ret
  exact ⟨rfl, (Below.refl _ _).alloc (Nat.le_refl _) _⟩

set_option maxHeartbeats 4000000 in
theorem right_no (ux uy uz radius t late clock samples : Int) (w : World) (h : ¬ QOk ux uy uz radius t late clock samples) :
    Calls Tryd.prog 12 #[arr3 ux uy uz, .int .i64 radius, .int .i64 t, .int .i64 late, .int .i64 clock, .int .i64 samples] w fun e w' => e = .returned (.int .i64 2) ∧ Below w.heap.size w w' := by
  rcases Int.lt_or_le ux (-100000000) with x0 | x0
  · clear h
    go_enter Tryd.func12, Tryd.ntmps12
    go_wp2
    go_ret
    exact ⟨rfl, (Below.refl _ _).alloc (Nat.le_refl _) _⟩
  rcases Int.lt_or_le 100000000 ux with x1 | x1
  · clear h
    go_enter Tryd.func12, Tryd.ntmps12
    go_wp2
    go_ret
    exact ⟨rfl, (Below.refl _ _).alloc (Nat.le_refl _) _⟩
  rcases Int.lt_or_le uy (-100000000) with y0 | y0
  · clear h
    go_enter Tryd.func12, Tryd.ntmps12
    go_wp2
    go_ret
    exact ⟨rfl, (Below.refl _ _).alloc (Nat.le_refl _) _⟩
  rcases Int.lt_or_le 100000000 uy with y1 | y1
  · clear h
    go_enter Tryd.func12, Tryd.ntmps12
    go_wp2
    go_ret
    exact ⟨rfl, (Below.refl _ _).alloc (Nat.le_refl _) _⟩
  rcases Int.lt_or_le uz (-100000000) with z0 | z0
  · clear h
    go_enter Tryd.func12, Tryd.ntmps12
    go_wp2
    go_ret
    exact ⟨rfl, (Below.refl _ _).alloc (Nat.le_refl _) _⟩
  rcases Int.lt_or_le 100000000 uz with z1 | z1
  · clear h
    go_enter Tryd.func12, Tryd.ntmps12
    go_wp2
    go_ret
    exact ⟨rfl, (Below.refl _ _).alloc (Nat.le_refl _) _⟩
  rcases Int.lt_or_le radius 0 with r0 | r0
  · clear h
    go_enter Tryd.func12, Tryd.ntmps12
    go_wp2
    go_ret
    exact ⟨rfl, (Below.refl _ _).alloc (Nat.le_refl _) _⟩
  rcases Int.lt_or_le 10000000 radius with r1 | r1
  · clear h
    go_enter Tryd.func12, Tryd.ntmps12
    go_wp2
    go_ret
    exact ⟨rfl, (Below.refl _ _).alloc (Nat.le_refl _) _⟩
  rcases Int.lt_or_le t 0 with t0 | t0
  · clear h
    go_enter Tryd.func12, Tryd.ntmps12
    go_wp2
    go_ret
    exact ⟨rfl, (Below.refl _ _).alloc (Nat.le_refl _) _⟩
  rcases Int.lt_or_le t 604800 with t1 | t1
  rotate_left
  · clear h
    go_enter Tryd.func12, Tryd.ntmps12
    go_wp2
    go_ret
    exact ⟨rfl, (Below.refl _ _).alloc (Nat.le_refl _) _⟩
  rcases Int.lt_or_le late 0 with l0 | l0
  · clear h
    go_enter Tryd.func12, Tryd.ntmps12
    go_wp2
    go_ret
    exact ⟨rfl, (Below.refl _ _).alloc (Nat.le_refl _) _⟩
  rcases Int.lt_or_le 600 late with l1 | l1
  · clear h
    go_enter Tryd.func12, Tryd.ntmps12
    go_wp2
    go_ret
    exact ⟨rfl, (Below.refl _ _).alloc (Nat.le_refl _) _⟩
  rcases Int.lt_or_le clock 0 with c0 | c0
  · clear h
    go_enter Tryd.func12, Tryd.ntmps12
    go_wp2
    go_ret
    exact ⟨rfl, (Below.refl _ _).alloc (Nat.le_refl _) _⟩
  rcases Int.lt_or_le 1000000000 clock with c1 | c1
  · clear h
    go_enter Tryd.func12, Tryd.ntmps12
    go_wp2
    go_ret
    exact ⟨rfl, (Below.refl _ _).alloc (Nat.le_refl _) _⟩
  rcases Int.lt_or_le samples 1 with s0 | s0
  · clear h
    go_enter Tryd.func12, Tryd.ntmps12
    go_wp2
    go_ret
    exact ⟨rfl, (Below.refl _ _).alloc (Nat.le_refl _) _⟩
  rcases Int.lt_or_le 8192 samples with s1 | s1
  · clear h
    go_enter Tryd.func12, Tryd.ntmps12
    go_wp2
    go_ret
    exact ⟨rfl, (Below.refl _ _).alloc (Nat.le_refl _) _⟩
  exact absurd ⟨x0, x1, y0, y1, z0, z1, r0, r1, t0, (by omega), l0, l1, c0, c1, s0, s1⟩ h
end Go.Proofs.YtphdphipnbclcaaDoor
