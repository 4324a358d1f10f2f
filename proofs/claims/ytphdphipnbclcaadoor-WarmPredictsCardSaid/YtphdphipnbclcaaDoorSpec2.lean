/- The two sums over the axes, as the program gathers them, and the bounds of the numbers that decide whether a satellite is up. -/
import Derived.Test.YtphdphipnbclcaaDoorSpec
namespace Go.Proofs.YtphdphipnbclcaaDoor

def sk (p : Pg) (q : Qu) (k : Nat) : Int := [sx p q, sy p q, sz p q].getD k 0
def fk (p : Pg) (q : Qu) : Nat → Int
  | 0 => 0
  | k + 1 => fk p q k + (sk p q k - q.un k) * q.un k
def mk (p : Pg) (q : Qu) : Nat → Int
  | 0 => 0
  | k + 1 => mk p q k + (sk p q k - q.un k) * (sk p q k - q.un k)
theorem fk_eq (p : Pg) (q : Qu) : fk p q 3 = fI p q := by
  show 0 + (sx p q - q.ux) * q.ux + (sy p q - q.uy) * q.uy + (sz p q - q.uz) * q.uz = _
  unfold fI
  omega
theorem mk_eq (p : Pg) (q : Qu) : mk p q 3 = sumI p q := by
  show 0 + (sx p q - q.ux) * (sx p q - q.ux) + (sy p q - q.uy) * (sy p q - q.uy) + (sz p q - q.uz) * (sz p q - q.uz) = _
  unfold sumI
  omega

section
variable {p : Pg} {q : Qu} (h : Good p q)
include h
theorem Good.un (k : Nat) (hk : k < 3) : -100000000 ≤ q.un k ∧ q.un k ≤ 100000000 := by
  have := h.qu.x0; have := h.qu.x1; have := h.qu.y0; have := h.qu.y1; have := h.qu.z0; have := h.qu.z1
  rcases (show k = 0 ∨ k = 1 ∨ k = 2 by omega) with rfl | rfl | rfl <;> exact ⟨by assumption, by assumption⟩
theorem Good.dk (k : Nat) (hk : k < 3) : -670000000 ≤ sk p q k - q.un k ∧ sk p q k - q.un k ≤ 670000000 := by
  obtain ⟨a, b, c⟩ := h.df
  rcases (show k = 0 ∨ k = 1 ∨ k = 2 by omega) with rfl | rfl | rfl
  · exact a
  · exact b
  · exact c
theorem Good.fp (k : Nat) (hk : k < 3) : -67000000000000000 ≤ (sk p q k - q.un k) * q.un k ∧ (sk p q k - q.un k) * q.un k ≤ 67000000000000000 := by
  have a := h.dk k hk
  have b := h.un k hk
  have := prod_bd a.1 a.2 b.1 b.2
  omega
theorem Good.mp (k : Nat) (hk : k < 3) : 0 ≤ (sk p q k - q.un k) * (sk p q k - q.un k) ∧ (sk p q k - q.un k) * (sk p q k - q.un k) ≤ 448900000000000000 := by
  have a := h.dk k hk
  have := prod_bd a.1 a.2 a.1 a.2
  have := sq_nonneg (sk p q k - q.un k)
  omega
theorem Good.fk (k : Nat) (hk : k ≤ 3) : -67000000000000000 * (k : Int) ≤ fk p q k ∧ fk p q k ≤ 67000000000000000 * (k : Int) := by
  induction k with
  | zero => exact ⟨Int.le_refl _, Int.le_refl _⟩
  | succ k ih =>
    have := ih (by omega)
    have := h.fp k (by omega)
    show _ ≤ Go.Proofs.YtphdphipnbclcaaDoor.fk p q k + _ ∧ Go.Proofs.YtphdphipnbclcaaDoor.fk p q k + _ ≤ _
    omega
theorem Good.msk (k : Nat) (hk : k ≤ 3) : 0 ≤ Go.Proofs.YtphdphipnbclcaaDoor.mk p q k ∧ Go.Proofs.YtphdphipnbclcaaDoor.mk p q k ≤ 448900000000000000 * (k : Int) := by
  induction k with
  | zero => exact ⟨Int.le_refl _, Int.le_refl _⟩
  | succ k ih =>
    have := ih (by omega)
    have := h.mp k (by omega)
    show _ ≤ Go.Proofs.YtphdphipnbclcaaDoor.mk p q k + _ ∧ Go.Proofs.YtphdphipnbclcaaDoor.mk p q k + _ ≤ _
    omega
theorem Good.b1 : 0 ≤ spreadI p q * lenU q ∧ spreadI p q * lenU q ≤ 13200000000000000 := by
  have a := h.sp
  have b := h.lu
  exact ⟨Int.mul_nonneg (by omega) b.1, mul_mono (b := 44000000) (d := 300000000) a.2 b.2 b.1 (by omega)⟩
theorem Good.b2 : 0 ≤ q.radius * (lenS p q + 2 * lenU q) ∧ q.radius * (lenS p q + 2 * lenU q) ≤ 23100000000000000 := by
  have a := h.qu.r0
  have a' := h.qu.r1
  have b := h.lu
  have c := h.ls
  exact ⟨Int.mul_nonneg a (by omega), mul_mono (b := 10000000) (d := 2310000000) a' (by omega) (by omega) (by omega)⟩
theorem Good.b3 : 0 ≤ 2 * spreadI p q * q.radius ∧ 2 * spreadI p q * q.radius ≤ 880000000000000 := by
  have a := h.qu.r0
  have a' := h.qu.r1
  have b := h.sp
  exact ⟨Int.mul_nonneg (by omega) a, mul_mono (b := 88000000) (d := 10000000) (by omega) a' a (by omega)⟩
theorem Good.b4 : 0 ≤ q.radius * q.radius ∧ q.radius * q.radius ≤ 100000000000000 := by
  have a := h.qu.r0
  have a' := h.qu.r1
  exact ⟨Int.mul_nonneg a a, mul_mono (b := 10000000) (d := 10000000) a' a' a (by omega)⟩
theorem Good.b : 0 ≤ bI p q ∧ bI p q ≤ 40000000000000000 := by
  have := h.b1; have := h.b2; have := h.b3; have := h.b4
  unfold bI
  omega
end
end Go.Proofs.YtphdphipnbclcaaDoor
