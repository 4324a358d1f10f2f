/- The reference's Predict for a page and a question that are in range and not too old: the same hint as the program's. -/
import Derived.Test.YtphdphipnbclcaaDoorPredictR
namespace Go.Proofs.YtphdphipnbclcaaDoor
open Go.RowKit

theorem atR_s (p : Pg) (q : Qu) (w : World) (h : Good p q) :
    Calls Tryd.prog 14 #[p.v, .int .i64 q.t] w fun e w' => e = .returned (.tuple #[arr3 (sx p q) (sy p q) (sz p q), .int .i64 0]) ∧ Below w.heap.size w w' :=
  atR_any p q.t w h.pg h.qu.t0 h.qu.t1

abbrev sarr (p : Pg) (q : Qu) : Array Value := #[.int .i64 (sx p q), .int .i64 (sy p q), .int .i64 (sz p q)]
/-- .. with the position in block g. -/
def R2 (p : Pg) (q : Qu) (w : World) (g : Nat) (w' : World) : Prop := RSt p q w w' ∧ Blk w' g (sarr p q) 22
section
variable {p : Pg} {q : Qu} {w w' w2 : World} {g : Nat}
theorem R2.step (h : R2 p q w g w') (hb : Below w'.heap.size w' w2) : R2 p q w g w2 := ⟨h.1.step hb, h.2.below hb⟩
theorem R2.drew (h : R2 p q w g w') : R2 p q w g w'.drew := ⟨h.1.drew, h.2.drew⟩
theorem R2.drewN (h : R2 p q w g w') (n : Nat) : R2 p q w g (w'.drewN n) := ⟨h.1.drewN n, h.2.drewN n⟩
theorem R2.keepD (h : R2 p q w g w') : (∀ o, w'.drew.cell? ⟨w.heap.size, o, none⟩ = p.arr[o]?) ∧ R2 p q w g w'.drew := ⟨h.drew.1.cells.1, h.drew⟩
theorem R2.keepS (h : R2 p q w g w') (hb : Below w'.heap.size w' w2) : (∀ o, w2.cell? ⟨w.heap.size, o, none⟩ = p.arr[o]?) ∧ R2 p q w g w2 := ⟨(h.step hb).1.cells.1, h.step hb⟩
theorem R2.held (h : (∀ o, w'.cell? ⟨w.heap.size, o, none⟩ = p.arr[o]?) ∧ R2 p q w g w') : R2 p q w g w' := h.2
end

/-- .. with the hint in block k. -/
def R3 (p : Pg) (q : Qu) (w : World) (k : Nat) (cs : Array Value) (w' : World) : Prop := (RSt p q w w' ∧ Blk w' k cs 30) ∧ w.heap.size + 2 < k
section
variable {p : Pg} {q : Qu} {w w' w2 : World} {g k : Nat} {cs : Array Value}
theorem R3.start (h : R2 p q w g w') : R3 p q w w'.heap.size cs (w'.alloc (.cells cs 30)) := ⟨⟨h.1.alloc _, Blk.new w' cs 30⟩, h.1.2.2.1.lt⟩
theorem R3.set (h : R3 p q w k cs w') (i : Nat) (v : Value) : R3 p q w k (cs.setIfInBounds i v) (w'.setCell ⟨k, i, none⟩ v) := by
  have hk := h.2
  exact ⟨⟨⟨h.1.1.1.other (by show w.heap.size ≠ k; omega) v, h.1.1.2.1.other (by show w.heap.size + 1 ≠ k; omega) v, h.1.1.2.2.1.other (by show w.heap.size + 2 ≠ k; omega) v, h.1.1.2.2.2.setCell (p := ⟨k, i, none⟩) (by show w.heap.size ≤ k; omega) v⟩, h.1.2.set i v⟩, hk⟩
theorem R3.drewN (h : R3 p q w k cs w') (n : Nat) : R3 p q w k cs (w'.drewN n) := ⟨⟨h.1.1.drewN n, h.1.2.drewN n⟩, h.2⟩
end
theorem lag_facts {l m : Int} (h0 : 1 ≤ m) (h1 : m ≤ 8192) (l0 : -63000000 ≤ l) (l1 : l ≤ 63000000) : -64000000 ≤ l / m * m ∧ l / m * m ≤ 64000000 ∧ l - l / m * m = l % m := by
  have a := Int.emod_nonneg l (show m ≠ 0 by omega)
  have b := Int.emod_lt_of_pos l (show 0 < m by omega)
  have c := Int.mul_ediv_add_emod l m
  have d : m * (l / m) = l / m * m := Int.mul_comm _ _
  omega

/-- Whether it is up, behind the first of the two tests. -/
def up1 (p : Pg) (q : Qu) : Int := if bI p q < fI p q then 1 else 0
theorem up1_t {p : Pg} {q : Qu} (h : bI p q < fI p q) : up1 p q = 1 := by unfold up1; rw [if_pos h]
theorem up1_f {p : Pg} {q : Qu} (h : ¬ bI p q < fI p q) : up1 p q = 0 := by unfold up1; rw [if_neg h]
theorem upI_t {p : Pg} {q : Qu} (hb : 0 ≤ bI p q) (h : fI p q < -bI p q) : upI p q = -1 := by unfold upI; rw [if_neg (by omega), if_pos h]
theorem upI_f {p : Pg} {q : Qu} (h : ¬ fI p q < -bI p q) : upI p q = up1 p q := by unfold upI up1; rw [if_neg h]

set_option maxRecDepth 100000 in
set_option maxHeartbeats 8000000 in
theorem predR_good (p : Pg) (q : Qu) (r : Int) (w : World) (h : Good p q) (hr : IsRoot (sumI p q) r) :
    Calls Tryd.prog 5 #[p.v, arr3 q.ux q.uy q.uz, .int .i64 q.radius, .int .i64 q.t, .int .i64 q.late, .int .i64 q.clock, .int .i64 q.many] w fun e w' =>
      e = .returned (.tuple #[hintV p.prn (upI p q) (nearI p q r) (farI p q r) (lagI p q r) (manyI p q r), .int .i64 0]) ∧ Below w.heap.size w w' := by
  have t0 := h.pg.t00
  have t1 := h.pg.t01
  have u0 := h.qu.t0
  have u1 := h.qu.t1
  have l0 := h.qu.l0
  have l1 := h.qu.l1
  have ha := h.old
  obtain ⟨d0, d1⟩ := absI_bd (q.t - p.t0) 604800 (by omega) (by omega)
  obtain ⟨x0, x1⟩ := absI_bd (dd p q) 302400 (wk_bd (q.t - p.t0)).1 (Int.le_trans (wk_bd (q.t - p.t0)).2 (by omega))
  have e1 : (if 604800 - absI (q.t - p.t0) < absI (q.t - p.t0) then 604800 - absI (q.t - p.t0) else absI (q.t - p.t0)) = absI (dd p q) := age_eq p q t0 t1 u0 u1
  have e2 : absI (dd p q) + q.late = ageI p q := rfl
  have HG := Lib.hid h
  have HR := Lib.hid hr
  clear h hr
  go_enter Tryd.func5, Tryd.ntmps5
  go_wp2_with fail
  have s0 := RSt.start p q w
  refine (checkR_yes p _ HG.out.pg).mono ?_
  rintro e w1 ⟨rfl, hb1⟩
  have s1 := s0.step hb1
  clear s0 hb1
  obtain ⟨c1, c2, c3, c4⟩ := s1.cells
  go_wp2_with fail
  refine (right_yes q.ux q.uy q.uz q.radius q.t q.late q.clock q.many _ HG.out.qu).mono ?_
  rintro e w2 ⟨rfl, hb2⟩
  have s2 := s1.step hb2
  clear s1 hb2 c1 c2 c3 c4
  obtain ⟨c1, c2, c3, c4⟩ := s2.cells
  go_wp2_with (go_at_call 13; refine (abs_any _ _ (by omega) (by omega)).mono ?_; rintro e w' ⟨rfl, rfl⟩)
  refine (atR_s p q _ HG.out).mono ?_
  rintro e w3 ⟨rfl, hb3⟩
  have s3 : R2 p q w w3.heap.size (w3.alloc (.cells (sarr p q) 22)) := ⟨(s2.step hb3).alloc _, Blk.new w3 (sarr p q) 22⟩
  clear s2 hb3 c1 c2 c3 c4 e1 e2 d0 d1
  go_upto_region 12 with (fail)
  generalize w3.alloc (.cells (sarr p q) 22) = w4 at s3 ⊢
  generalize w3.heap.size = g at s3 ⊢
  obtain ⟨c1, c2, c3, c4⟩ := s3.1.cells
  obtain ⟨g0, g1⟩ := HG.out.age
  obtain ⟨n0, n1⟩ := HG.out.vl
  obtain ⟨n2, n3⟩ := HG.out.g
  have r0 := HG.out.pg.er0
  have r1 := HG.out.pg.er1
  have m1 : (if (if speedI p.x1 p.x2 (ageI p q) < speedI p.y1 p.y2 (ageI p q) then speedI p.y1 p.y2 (ageI p q) else speedI p.x1 p.x2 (ageI p q)) < speedI p.z1 p.z2 (ageI p q) then speedI p.z1 p.z2 (ageI p q) else (if speedI p.x1 p.x2 (ageI p q) < speedI p.y1 p.y2 (ageI p q) then speedI p.y1 p.y2 (ageI p q) else speedI p.x1 p.x2 (ageI p q))) = vmax p (ageI p q) := rfl
  have m2 : IntKind.i64.wrap (vmax p (ageI p q) * q.late) = vmax p (ageI p q) * q.late := IntWalk.i64_in _ (by omega)
  have m3 : IntKind.i64.wrap (vmax p (ageI p q) * q.late + 1) = vmax p (ageI p q) * q.late + 1 := IntWalk.i64_in _ (by omega)
  have m4 : IntKind.i64.wrap (vmax p (ageI p q) * q.late + 1 + p.er) = vmax p (ageI p q) * q.late + 1 + p.er := IntWalk.i64_in _ (by omega)
  have m5 : IntKind.i64.wrap (p.gr * ageI p q) = p.gr * ageI p q := IntWalk.i64_in _ (by omega)
  have m6 : IntKind.i64.wrap (p.gr * ageI p q + 3599) = p.gr * ageI p q + 3599 := IntWalk.i64_in _ (by omega)
  have m7 : IntKind.i64.wrap ((p.gr * ageI p q + 3599).tdiv 3600) = (p.gr * ageI p q + 3599) / 3600 := IntWalk.i64_quo _ _ (by omega)
  have m8 : IntKind.i64.wrap (vmax p (ageI p q) * q.late + 1 + p.er + (p.gr * ageI p q + 3599) / 3600) = spreadI p q := IntWalk.i64_in _ (by omega)
  go_cut [22] (fun s22 wx => s22 = .int .i64 (spreadI p q) ∧ R2 p q w g wx)
  case first =>
    go_region_held3 (fun w' => (∀ o, w'.cell? ⟨w.heap.size, o, none⟩ = p.arr[o]?) ∧ R2 p q w g w')
      (first | assumption | (exact R2.keepD (by assumption)) | (go_split_ands; exact R2.keepS (by assumption) hb3))
      (first
        | (go_at_call_of 15 p.x1; (with_reducible refine (speed_any _ _ _ _ _ HG.out.pg.x1 HG.out.pg.x2 ⟨g0, g1⟩).mono ?_); rintro e w5 ⟨rfl, hb3⟩)
        | (go_at_call_of 15 p.y1; (with_reducible refine (speed_any _ _ _ _ _ HG.out.pg.y1 HG.out.pg.y2 ⟨g0, g1⟩).mono ?_); rintro e w5 ⟨rfl, hb3⟩)
        | (go_at_call_of 15 p.z1; (with_reducible refine (speed_any _ _ _ _ _ HG.out.pg.z1 HG.out.pg.z2 ⟨g0, g1⟩).mono ?_); rintro e w5 ⟨rfl, hb3⟩))
    all_goals
      go_wp2_with fail
      go_meet
      exact ⟨rfl, R2.held (by assumption)⟩
  case rest =>
    obtain ⟨rfl, st⟩ := hcut
    clear m1 m2 m3 m4 m5 m6 m7 m8 c1 c2 c3 c4 s3 n0 n1 n2 n3 r0 r1 g0 g1 t0 t1 u0 u1 l0 l1 ha x0 x1
    obtain ⟨c1, c2, c3, c4⟩ := st.1.cells
    have c5 := st.2.cell
    obtain ⟨⟨x0, x1⟩, ⟨y0, y1⟩, ⟨z0, z1⟩⟩ := HG.out.df
    go_wp2
    go_quiet (fail)
    have st1 := st.drewN nq
    generalize wc.drewN nq = w5 at st1 ⊢
    clear c1 c2 c3 c4 c5 st
    obtain ⟨c1, c2, c3, c4⟩ := st1.1.cells
    have c5 := st1.2.cell
    obtain ⟨f0, f1⟩ : -67000000000000000 ≤ (sx p q - q.ux) * q.ux ∧ (sx p q - q.ux) * q.ux ≤ 67000000000000000 := HG.out.fp 0 (by omega)
    obtain ⟨f2, f3⟩ : -67000000000000000 ≤ (sy p q - q.uy) * q.uy ∧ (sy p q - q.uy) * q.uy ≤ 67000000000000000 := HG.out.fp 1 (by omega)
    obtain ⟨f4, f5⟩ : -67000000000000000 ≤ (sz p q - q.uz) * q.uz ∧ (sz p q - q.uz) * q.uz ≤ 67000000000000000 := HG.out.fp 2 (by omega)
    have ef : (sx p q - q.ux) * q.ux + (sy p q - q.uy) * q.uy + (sz p q - q.uz) * q.uz = fI p q := rfl
    have ux0 := HG.out.qu.x0
    have ux1 := HG.out.qu.x1
    have uy0 := HG.out.qu.y0
    have uy1 := HG.out.qu.y1
    have uz0 := HG.out.qu.z0
    have uz1 := HG.out.qu.z1
    obtain ⟨⟨sx0, sx1⟩, ⟨sy0, sy1⟩, ⟨sz0, sz1⟩⟩ := HG.out.s
    go_wp2
    clear f0 f1 f2 f3 f4 f5 ef
    obtain ⟨a0, a1⟩ := absI_bd q.ux 100000000 (by omega) (by omega)
    obtain ⟨a2, a3⟩ := absI_bd q.uy 100000000 (by omega) (by omega)
    obtain ⟨a4, a5⟩ := absI_bd q.uz 100000000 (by omega) (by omega)
    obtain ⟨b0, b1⟩ := absI_bd (sx p q) 570000000 (by omega) (by omega)
    obtain ⟨b2, b3⟩ := absI_bd (sy p q) 570000000 (by omega) (by omega)
    obtain ⟨b4, b5⟩ := absI_bd (sz p q) 570000000 (by omega) (by omega)
    have eu : absI q.ux + absI q.uy + absI q.uz = lenU q := rfl
    have es : absI (sx p q) + absI (sy p q) + absI (sz p q) = lenS p q := rfl
    go_quiet ((go_at_call 13; exact Calls.quiet_of_same (abs_q _ _ (by omega) (by omega))))
    have st2 := st1.drewN nq
    generalize w5.drewN nq = w6 at st2 ⊢
    clear c1 c2 c3 c4 c5 st1 a0 a1 a2 a3 a4 a5 b0 b1 b2 b3 b4 b5 sx0 sx1 sy0 sy1 sz0 sz1 ux0 ux1 uy0 uy1 uz0 uz1
    obtain ⟨c1, c2, c3, c4⟩ := st2.1.cells
    have c5 := st2.2.cell
    obtain ⟨a0, a1⟩ := HG.out.b1
    obtain ⟨a2, a3⟩ := HG.out.b2
    obtain ⟨a4, a5⟩ := HG.out.b3
    obtain ⟨a6, a7⟩ := HG.out.b4
    obtain ⟨b0, b1⟩ := HG.out.b
    obtain ⟨b2, b3⟩ := HG.out.lu
    obtain ⟨b4, b5⟩ := HG.out.ls
    obtain ⟨b6, b7⟩ := HG.out.sp
    have eb : spreadI p q * lenU q + q.radius * (lenS p q + 2 * lenU q) + 2 * spreadI p q * q.radius + q.radius * q.radius = bI p q := rfl
    go_upto_region 17 with (fail)
    clear a0 a1 a2 a3 a4 a5 a6 a7 b2 b3 b4 b5 b6 b7 eb eu es c2 c3 c4 c5
    have st3 : R3 p q w w6.heap.size #[.int .i64 p.prn, .int .i64 0, .int .i64 0, .int .i64 0, .int .i64 0, .int .i64 0] (w6.alloc (.cells #[.int .i64 p.prn, .int .i64 0, .int .i64 0, .int .i64 0, .int .i64 0, .int .i64 0] 30)) := R3.start st2
    have hk : w.heap.size + 2 < w6.heap.size := st2.1.2.2.1.lt
    clear st2
    go_upto_if 173 with (fail)
    generalize w6.alloc (.cells #[.int .i64 p.prn, .int .i64 0, .int .i64 0, .int .i64 0, .int .i64 0, .int .i64 0] 30) = w7 at st3 ⊢
    generalize w6.heap.size = k at st3 hk ⊢
    clear c1
    go_cut [] (fun wx => R3 p q w k #[.int .i64 p.prn, .int .i64 (up1 p q), .int .i64 0, .int .i64 0, .int .i64 0, .int .i64 0] wx)
    case first =>
      have c5 := st3.1.2.cell
      have c6 := st3.1.2.free
      by_cases v1 : bI p q < fI p q
      · have st4 := st3.set 1 (.int .i64 1)
        go_wp2_with fail
        go_meet
        rw [up1_t v1]
        exact st4
      · go_wp2_with fail
        go_meet
        rw [up1_f (by omega)]
        exact st3
    case rest =>
      clear st3
      go_upto_if 178 with (fail)
      go_cut [] (fun wx => R3 p q w k #[.int .i64 p.prn, .int .i64 (upI p q), .int .i64 0, .int .i64 0, .int .i64 0, .int .i64 0] wx)
      case first =>
        have c5 := hcut.1.2.cell
        have c6 := hcut.1.2.free
        by_cases v1 : fI p q < -bI p q
        · have st4 := hcut.set 1 (.int .i64 (-1))
          go_wp2_with fail
          go_meet
          rw [upI_t b0 v1]
          exact st4
        · go_wp2_with fail
          go_meet
          rw [upI_f (by omega)]
          exact hcut
      case rest =>
        have c5 := hcut.1.2.cell
        have c6 := hcut.1.2.free
        obtain ⟨p0, p1⟩ : 0 ≤ (sx p q - q.ux) * (sx p q - q.ux) ∧ (sx p q - q.ux) * (sx p q - q.ux) ≤ 448900000000000000 := HG.out.mp 0 (by omega)
        obtain ⟨p2, p3⟩ : 0 ≤ (sy p q - q.uy) * (sy p q - q.uy) ∧ (sy p q - q.uy) * (sy p q - q.uy) ≤ 448900000000000000 := HG.out.mp 1 (by omega)
        obtain ⟨p4, p5⟩ : 0 ≤ (sz p q - q.uz) * (sz p q - q.uz) ∧ (sz p q - q.uz) * (sz p q - q.uz) ≤ 448900000000000000 := HG.out.mp 2 (by omega)
        have es : (sx p q - q.ux) * (sx p q - q.ux) + (sy p q - q.uy) * (sy p q - q.uy) + (sz p q - q.uz) * (sz p q - q.uz) = sumI p q := rfl
        obtain ⟨s0, s1⟩ := HG.out.sum
        obtain ⟨r0, r1⟩ := HG.out.r HR.out
        obtain ⟨d0, d1⟩ := HG.out.sp
        have d2 := HG.out.qu.r0
        have d3 := HG.out.qu.r1
        obtain ⟨ee0, ee1⟩ := HG.out.e
        have e1 : 2 * spreadI p q + q.radius = eI p q := rfl
        have e2 : (if eI p q < r then r - eI p q else 0) = nearI p q r := by
          unfold nearI mx
          split <;> split <;> omega
        have e3 : r + 1 + eI p q = farI p q r := rfl
        go_wp2_with (go_at_call 16; refine (bisect_any _ r _ HR.out s0 (by omega)).mono ?_; rintro e w' ⟨rfl, rfl⟩)
        have st5 : R3 p q w k #[.int .i64 p.prn, .int .i64 (upI p q), .int .i64 (nearI p q r), .int .i64 (farI p q r), .int .i64 0, .int .i64 0] ((wc.setCell ⟨k, 2, none⟩ (.int .i64 (nearI p q r))).setCell ⟨k, 3, none⟩ (.int .i64 (farI p q r))) := (hcut.set 2 _).set 3 _
        generalize (wc.setCell ⟨k, 2, none⟩ (.int .i64 (nearI p q r))).setCell ⟨k, 3, none⟩ (.int .i64 (farI p q r)) = w8 at st5 ⊢
        clear c5 c6 p0 p1 p2 p3 p4 p5 es s0 s1 d0 d1 d2 d3 ee0 ee1 e1 e2 e3 hcut
        have c5 := st5.1.2.cell
        obtain ⟨lp0, lp1⟩ := HG.out.lp HR.out
        obtain ⟨hp0, hp1⟩ := HG.out.hp HR.out
        obtain ⟨n0, n1⟩ := HG.out.near HR.out
        obtain ⟨f0, f1⟩ := HG.out.far HR.out
        have m0 := HG.out.qu.c0
        have m1 := HG.out.qu.c1
        have m2 := HG.out.qu.s0
        have m3 := HG.out.qu.s1
        have el : (nearI p q r - q.clock) * 1000 * q.many / 299792458 = lowI p q r := rfl
        have eh : (farI p q r + q.clock) * 1000 * q.many / 299792458 = highI p q r := rfl
        go_quiet ((go_at_call 17; exact Calls.quiet_of_same (floor_q _ _ _ (by omega) (by omega) (by omega))))
        have st6 := st5.drewN nq
        generalize w8.drewN nq = w9 at st6 ⊢
        clear c5 st5 lp0 lp1 hp0 hp1 n0 n1 f0 f1
        have c5 := st6.1.2.cell
        have c6 := st6.1.2.free
        have c7 := st6.1.1.2.2.1.cell
        have c8 := st6.1.1.2.2.1.free
        obtain ⟨lo0, lo1⟩ := HG.out.low HR.out
        obtain ⟨hi0, hi1⟩ := HG.out.high HR.out
        have em : (if highI p q r - lowI p q r + 1 < q.many then highI p q r - lowI p q r + 1 else q.many) = manyI p q r := rfl
        obtain ⟨g0, g1, g2⟩ : -64000000 ≤ lowI p q r / q.many * q.many ∧ lowI p q r / q.many * q.many ≤ 64000000 ∧ lowI p q r - lowI p q r / q.many * q.many = lagI p q r := lag_facts m2 m3 lo0 lo1
        go_wp2_with (go_at_call 17; refine (floor_any _ _ _ (by omega) (by omega) (by omega)).mono ?_; rintro e w' ⟨rfl, rfl⟩)
        refine bodyPost_ret (v := .tuple #[hintV p.prn (upI p q) (nearI p q r) (farI p q r) (lagI p q r) (manyI p q r), .int .i64 0]) (by simp [results, Tryd.results5, go_sem, c7]) rfl ⟨rfl, ?_⟩
        have hbf : Below w.heap.size w w9 := st6.1.1.2.2.2
        clear st6 c5 c6 c7 c8
        repeat (first | (with_reducible refine Below.setCell ?_ (by simp; omega) _) | (with_reducible exact hbf))
end Go.Proofs.YtphdphipnbclcaaDoor
