/- What a hint is, as plain functions of whole numbers: the age, the spread, whether the satellite is up, the distance, the lags; and the bounds that keep all of it far inside int64. -/
import Derived.Test.YtphdphipnbclcaaDoorQCheck
import Derived.Test.YtphdphipnbclcaaDoorRoot
namespace Go.Proofs.YtphdphipnbclcaaDoor

def mx (a b : Int) : Int := if b > a then b else a
def mn (a b : Int) : Int := if b < a then b else a

/-- The age of the page at the second, counted around the week. -/
def dd (p : Pg) (q : Qu) : Int := wk (q.t - p.t0)
def ageI (p : Pg) (q : Qu) : Int := absI (dd p q) + q.late
def sx (p : Pg) (q : Qu) : Int := p.px (dd p q)
def sy (p : Pg) (q : Qu) : Int := p.py (dd p q)
def sz (p : Pg) (q : Qu) : Int := p.pz (dd p q)
def vmax (p : Pg) (a : Int) : Int := mx (mx (speedI p.x1 p.x2 a) (speedI p.y1 p.y2 a)) (speedI p.z1 p.z2 a)
def spreadI (p : Pg) (q : Qu) : Int := vmax p (ageI p q) * q.late + 1 + p.er + (p.gr * ageI p q + 3599) / 3600
def fI (p : Pg) (q : Qu) : Int := (sx p q - q.ux) * q.ux + (sy p q - q.uy) * q.uy + (sz p q - q.uz) * q.uz
def lenU (q : Qu) : Int := lenI q.ux q.uy q.uz
def lenS (p : Pg) (q : Qu) : Int := lenI (sx p q) (sy p q) (sz p q)
def bI (p : Pg) (q : Qu) : Int := spreadI p q * lenU q + q.radius * (lenS p q + 2 * lenU q) + 2 * spreadI p q * q.radius + q.radius * q.radius
def upI (p : Pg) (q : Qu) : Int := if bI p q < fI p q then 1 else if fI p q < -bI p q then -1 else 0
def sumI (p : Pg) (q : Qu) : Int := (sx p q - q.ux) * (sx p q - q.ux) + (sy p q - q.uy) * (sy p q - q.uy) + (sz p q - q.uz) * (sz p q - q.uz)
def eI (p : Pg) (q : Qu) : Int := 2 * spreadI p q + q.radius
def nearI (p : Pg) (q : Qu) (r : Int) : Int := mx 0 (r - eI p q)
def farI (p : Pg) (q : Qu) (r : Int) : Int := r + 1 + eI p q
def lowI (p : Pg) (q : Qu) (r : Int) : Int := (nearI p q r - q.clock) * 1000 * q.many / 299792458
def highI (p : Pg) (q : Qu) (r : Int) : Int := (farI p q r + q.clock) * 1000 * q.many / 299792458
def manyI (p : Pg) (q : Qu) (r : Int) : Int := mn q.many (highI p q r - lowI p q r + 1)
def lagI (p : Pg) (q : Qu) (r : Int) : Int := lowI p q r % q.many

/-- The coefficients of axis k, and the bound of its velocity. -/
def ck (p : Pg) (k j : Nat) : Int := [p.x0, p.x1, p.x2, p.y0, p.y1, p.y2, p.z0, p.z1, p.z2].getD (k * 3 + j) 0
def vk (p : Pg) (a : Int) (k : Nat) : Int := [speedI p.x1 p.x2 a, speedI p.y1 p.y2 a, speedI p.z1 p.z2 a].getD k 0
/-- The spread as the program gathers it, behind k axes. -/
def spk (p : Pg) (q : Qu) : Nat → Int
  | 0 => 0
  | k + 1 => mx (spk p q k) (vk p (ageI p q) k * q.late + 1)
theorem up_eq (m : Int) : -(-m / 1024) = (m + 1023) / 1024 := by omega
theorem up_eq2 (m : Int) : -(-m / 3600) = (m + 3599) / 3600 := by omega
theorem vk_eq (p : Pg) (a : Int) (k : Nat) (hk : k < 3) : absI (ck p k 1) + -(-(2 * absI (ck p k 2) * a) / 1024) = vk p a k := by
  rw [up_eq]
  rcases (show k = 0 ∨ k = 1 ∨ k = 2 by omega) with rfl | rfl | rfl <;> rfl
theorem mx_l {a b : Int} (h : b ≤ a) : mx a b = a := by unfold mx; rw [if_neg (by omega)]
theorem mx_r {a b : Int} (h : a ≤ b) : mx a b = b := by unfold mx; split <;> omega
theorem mx_mul (a b l : Int) (hl : 0 ≤ l) : mx (a * l + 1) (b * l + 1) = mx a b * l + 1 := by
  rcases Int.le_total a b with h | h
  · rw [mx_r h, mx_r (by have := Int.mul_le_mul_of_nonneg_right h hl; omega)]
  · rw [mx_l h, mx_l (by have := Int.mul_le_mul_of_nonneg_right h hl; omega)]
theorem spk_eq (p : Pg) (q : Qu) (hl : 0 ≤ q.late) (h0 : 0 ≤ vk p (ageI p q) 0 * q.late) : spk p q 3 = vmax p (ageI p q) * q.late + 1 := by
  show mx (mx (mx 0 (vk p (ageI p q) 0 * q.late + 1)) (vk p (ageI p q) 1 * q.late + 1)) (vk p (ageI p q) 2 * q.late + 1) = _
  rw [mx_r (a := 0) (by omega), mx_mul _ _ _ hl, mx_mul _ _ _ hl]
  rfl

/-- All that is asked is in range, and the page is not too old. -/
structure Good (p : Pg) (q : Qu) : Prop where
  pg : POk p
  qu : q.ok
  old : ageI p q ≤ 14400

theorem mx_bd {a b lo hi : Int} (ha : lo ≤ a ∧ a ≤ hi) (hb : lo ≤ b ∧ b ≤ hi) : lo ≤ mx a b ∧ mx a b ≤ hi := by unfold mx; split <;> omega
theorem absI_le (n : Int) : n ≤ absI n ∧ -n ≤ absI n ∧ 0 ≤ absI n := by unfold absI; split <;> omega

theorem speed_bd {c1 c2 a : Int} (h1 : -8192 ≤ c1 ∧ c1 ≤ 8191) (h2 : -2048 ≤ c2 ∧ c2 ≤ 2047) (ha : 0 ≤ a ∧ a ≤ 14400) : 0 ≤ speedI c1 c2 a ∧ speedI c1 c2 a ≤ 65792 := by
  obtain ⟨k0, k1⟩ := absI_bd c1 8192 (by omega) (by omega)
  obtain ⟨k2, k3⟩ := absI_bd c2 2048 (by omega) (by omega)
  have m0 : 0 ≤ 2 * absI c2 * a := Int.mul_nonneg (by omega) ha.1
  have m1 : 2 * absI c2 * a ≤ 4096 * 14400 := Int.le_trans (Int.mul_le_mul_of_nonneg_right (by omega) ha.1) (Int.mul_le_mul_of_nonneg_left ha.2 (by omega))
  unfold speedI
  omega

theorem axis_bd {c0 c1 c2 d : Int} (h0 : -524288 ≤ c0 ∧ c0 ≤ 524287) (h1 : -8192 ≤ c1 ∧ c1 ≤ 8191) (h2 : -2048 ≤ c2 ∧ c2 ≤ 2047) (hd : -14400 ≤ d ∧ d ≤ 14400) : -570000000 ≤ axisI c0 c1 c2 d ∧ axisI c0 c1 c2 d ≤ 570000000 := by
  obtain ⟨d0, d1⟩ := hd
  obtain ⟨m0, m1⟩ := prod_bd (a := c1) (b := d) (A := 8192) (B := 14400) (by omega) (by omega) d0 d1
  obtain ⟨m2, m3⟩ := prod_bd (a := c2) (b := d) (A := 2048) (B := 14400) (by omega) (by omega) d0 d1
  obtain ⟨m4, m5⟩ := prod_bd (a := c2 * d) (b := d) (A := 2048 * 14400) (B := 14400) (by omega) (by omega) d0 d1
  unfold axisI rnd
  split <;> omega

section
variable {p : Pg} {q : Qu} (h : Good p q)
include h
theorem Good.age : 0 ≤ ageI p q ∧ ageI p q ≤ 14400 := by
  have := absI_le (dd p q)
  have := h.qu.l0
  have := h.old
  unfold ageI at *
  omega
theorem Good.d : -14400 ≤ dd p q ∧ dd p q ≤ 14400 := by
  have := absI_le (dd p q)
  have := h.qu.l0
  have := h.old
  unfold ageI at *
  omega
theorem Good.s : (-570000000 ≤ sx p q ∧ sx p q ≤ 570000000) ∧ (-570000000 ≤ sy p q ∧ sy p q ≤ 570000000) ∧ (-570000000 ≤ sz p q ∧ sz p q ≤ 570000000) :=
  ⟨axis_bd h.pg.x0 h.pg.x1 h.pg.x2 h.d, axis_bd h.pg.y0 h.pg.y1 h.pg.y2 h.d, axis_bd h.pg.z0 h.pg.z1 h.pg.z2 h.d⟩
theorem Good.v : 0 ≤ vmax p (ageI p q) ∧ vmax p (ageI p q) ≤ 65792 :=
  mx_bd (mx_bd (speed_bd h.pg.x1 h.pg.x2 h.age) (speed_bd h.pg.y1 h.pg.y2 h.age)) (speed_bd h.pg.z1 h.pg.z2 h.age)
theorem Good.vk (k : Nat) (hk : k < 3) : 0 ≤ vk p (ageI p q) k ∧ vk p (ageI p q) k ≤ 65792 := by
  rcases (show k = 0 ∨ k = 1 ∨ k = 2 by omega) with rfl | rfl | rfl
  · exact speed_bd h.pg.x1 h.pg.x2 h.age
  · exact speed_bd h.pg.y1 h.pg.y2 h.age
  · exact speed_bd h.pg.z1 h.pg.z2 h.age
theorem Good.ck1 (k : Nat) (hk : k < 3) : -8192 ≤ ck p k 1 ∧ ck p k 1 ≤ 8191 := by
  rcases (show k = 0 ∨ k = 1 ∨ k = 2 by omega) with rfl | rfl | rfl
  · exact h.pg.x1
  · exact h.pg.y1
  · exact h.pg.z1
theorem Good.ck2 (k : Nat) (hk : k < 3) : -2048 ≤ ck p k 2 ∧ ck p k 2 ≤ 2047 := by
  rcases (show k = 0 ∨ k = 1 ∨ k = 2 by omega) with rfl | rfl | rfl
  · exact h.pg.x2
  · exact h.pg.y2
  · exact h.pg.z2
theorem Good.vkl (k : Nat) (hk : k < 3) : 0 ≤ Go.Proofs.YtphdphipnbclcaaDoor.vk p (ageI p q) k * q.late ∧ Go.Proofs.YtphdphipnbclcaaDoor.vk p (ageI p q) k * q.late ≤ 39475200 :=
  ⟨Int.mul_nonneg (h.vk k hk).1 h.qu.l0, mul_mono (b := 65792) (d := 600) (h.vk k hk).2 h.qu.l1 h.qu.l0 (by omega)⟩
theorem Good.spk (k : Nat) (hk : k ≤ 3) : 0 ≤ Go.Proofs.YtphdphipnbclcaaDoor.spk p q k ∧ Go.Proofs.YtphdphipnbclcaaDoor.spk p q k ≤ 39475201 := by
  induction k with
  | zero => exact ⟨Int.le_refl 0, by show (0 : Int) ≤ _; omega⟩
  | succ k ih => exact mx_bd (ih (by omega)) (by have := h.vkl k (by omega); omega)
theorem Good.spread : Go.Proofs.YtphdphipnbclcaaDoor.spk p q 3 + (p.er + -(-(p.gr * ageI p q) / 3600)) = spreadI p q := by
  rw [spk_eq p q h.qu.l0 (h.vkl 0 (by omega)).1, up_eq2]
  unfold spreadI
  omega
theorem Good.vl : 0 ≤ vmax p (ageI p q) * q.late ∧ vmax p (ageI p q) * q.late ≤ 39475200 :=
  ⟨Int.mul_nonneg h.v.1 h.qu.l0, mul_mono (b := 65792) (d := 600) h.v.2 h.qu.l1 h.qu.l0 (by omega)⟩
theorem Good.g : 0 ≤ p.gr * ageI p q ∧ p.gr * ageI p q ≤ 15099480000 :=
  ⟨Int.mul_nonneg h.pg.gr0 h.age.1, mul_mono (b := 1048575) (d := 14400) h.pg.gr1 h.age.2 h.age.1 (by omega)⟩
theorem Good.sp : 1 ≤ spreadI p q ∧ spreadI p q ≤ 44000000 := by
  have := h.vl
  have := h.g
  have := h.pg.er0
  have := h.pg.er1
  unfold spreadI
  omega
theorem Good.lu : 0 ≤ lenU q ∧ lenU q ≤ 300000000 := by
  have := h.qu.x0; have := h.qu.x1; have := h.qu.y0; have := h.qu.y1; have := h.qu.z0; have := h.qu.z1
  have := absI_bd q.ux 100000000 (by omega) (by omega)
  have := absI_bd q.uy 100000000 (by omega) (by omega)
  have := absI_bd q.uz 100000000 (by omega) (by omega)
  unfold lenU lenI
  omega
theorem Good.ls : 0 ≤ lenS p q ∧ lenS p q ≤ 1710000000 := by
  obtain ⟨a, b, c⟩ := h.s
  have := absI_bd (sx p q) 570000000 (by omega) (by omega)
  have := absI_bd (sy p q) 570000000 (by omega) (by omega)
  have := absI_bd (sz p q) 570000000 (by omega) (by omega)
  unfold lenS lenI
  omega
theorem Good.df : (-670000000 ≤ sx p q - q.ux ∧ sx p q - q.ux ≤ 670000000) ∧ (-670000000 ≤ sy p q - q.uy ∧ sy p q - q.uy ≤ 670000000) ∧ (-670000000 ≤ sz p q - q.uz ∧ sz p q - q.uz ≤ 670000000) := by
  obtain ⟨a, b, c⟩ := h.s
  have := h.qu.x0; have := h.qu.x1; have := h.qu.y0; have := h.qu.y1; have := h.qu.z0; have := h.qu.z1
  omega
theorem Good.sum : 0 ≤ sumI p q ∧ sumI p q ≤ 1346700000000000000 := by
  obtain ⟨a, b, c⟩ := h.df
  have := prod_bd a.1 a.2 a.1 a.2
  have := prod_bd b.1 b.2 b.1 b.2
  have := prod_bd c.1 c.2 c.1 c.2
  have := sq_nonneg (sx p q - q.ux)
  have := sq_nonneg (sy p q - q.uy)
  have := sq_nonneg (sz p q - q.uz)
  unfold sumI
  omega
theorem Good.r {r : Int} (hr : IsRoot (sumI p q) r) : 0 ≤ r ∧ r ≤ 1200000000 := by
  have := hr.lt 1200000000 (by omega) (by have := h.sum; omega)
  have := hr.nonneg
  omega
theorem Good.e : 2 ≤ eI p q ∧ eI p q ≤ 98000000 := by
  have := h.sp
  have := h.qu.r0
  have := h.qu.r1
  unfold eI
  omega
end
end Go.Proofs.YtphdphipnbclcaaDoor
